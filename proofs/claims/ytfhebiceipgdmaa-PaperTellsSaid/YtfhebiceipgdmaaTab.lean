/- The table. Printed by a program. -/
import Derived.Test.YtfhebiceipgdmaaVmF
import Derived.Test.YtfhebiceipgdmaaVmT
import Derived.Test.YtfhebiceipgdmaaCode1
import Derived.Test.YtfhebiceipgdmaaCode2
set_option linter.unusedVariables false
set_option linter.unusedSimpArgs false
namespace Go.Proofs.Ytfhebiceipgdmaa
open Vm
open Go.RowKit
def o62:List D→Option D:=CM 66 9 72
def o63:List D→Option D:=CM 72 2 16
def o64:List D→Option D:=CM 81 9 72
def o65:List D→Option D:=CM 58 3 24
def TL:List (Nat × Option Def):=[(56,some (.code aL5)),(91,some (.code aL2)),(115,some (.code aI9)),(121,some (.code aI4)),(116,some (.code aIZ)),(109,some (.code aI6)),(93,some (.code aMn)),(92,some (.code aKM)),(74,some (.code aKX)),(110,some (.code aI1)),(95,some (.code aLy)),(94,some (.code aKW)),(96,some (.code aLR)),(98,some (.code aK3)),(97,some (.code aLo)),(99,some (.code aLc)),(100,some (.code aJc)),(75,some (.code aKV)),(76,some (.code aLf)),(77,some (.code aLU)),(78,some (.code aLQ)),(57,some (.code aLt)),(59,some (.code aLw)),(66,some (.code aLA)),(117,some (.code aJa)),(111,some (.code aIM)),(101,some (.code aI2)),(79,some (.code aLq)),(58,some (.code aKO)),(80,some (.code aL3)),(60,some (.code aLu)),(102,some (.code aIL)),(82,some (.code aK8)),(81,some (.code aMc)),(61,some (.code aKN)),(29,some (.code aKT)),(30,some (.code aKG)),(33,some (.code aMb)),(37,some (.code aLm)),(32,some (.code aKK)),(34,some (.code aMg)),(27,some (.code aMa)),(28,some (.code aLE)),(122,some (.code aIR)),(118,some (.code aIJ)),(119,some (.code aIU)),(112,some (.code aI8)),(69,some (.code aLP)),(120,some (.code aIO)),(113,some (.code aIH)),(103,some (.code aI5)),(104,some (.code aIS)),(114,some (.code aIQ)),(105,some (.code aIY)),(106,some (.code aIW)),(107,some (.code aJd)),(83,some (.code aLD)),(84,some (.code aMd)),(85,some (.code aLp)),(86,some (.code aLG)),(87,some (.code aKQ)),(88,some (.code aK7)),(67,some (.code aL7)),(72,some (.code aLH)),(108,some (.code aI7)),(89,some (.code aKI)),(68,some (.code aLT)),(90,some (.code aK2)),(70,some (.code aK6)),(71,some (.code aLW)),(36,some (.code aLl)),(35,some (.code aLr)),(31,some (.code aKR)),(38,some (.code aMm)),(40,some (.code aL4)),(41,some (.code aKZ)),(39,some (.code aLd)),(42,some (.code aMi)),(43,some (.code aLF)),(10,some (.code aL8)),(62,some (.told o62)),(63,some (.told o63)),(64,some (.told o64)),(65,some (.told o65))]
def TT:FU:=fun f=>lk TL none f
structure bL where
 Name:ByteArray
 Order:Int
 Currency:Int
 Rest:List Int
 Feasts:List Int
 Shut:List Int
 deriving Inhabited
def bL.cells (x:bL):List D:=[.str x.Name,.int .i64 x.Order,.int .i64 x.Currency,.sl (cM cI x.Rest),.sl (cM cI x.Feasts),.sl (cM cI x.Shut)]
theorem bL.sized (xs:List bL):sized 6 (cM bL.cells xs) = true:=fG _ _ (fun x=>by rfl) xs
theorem bL.len (x:bL):x.cells.length = 6:=rfl
theorem bL.size {β:Type} (x:bL) (y:Option β):kY x.cells 6 y = y:=rfl
theorem bL.eq1 {β:Type} (x:bL) (ks:List Nat) (ys:List V) (k:Bool→Option β):dR ks (aC x.cells) ys k = dR ks [.d (.str x.Name),.d (.int .i64 x.Order),.d (.int .i64 x.Currency),.d (.sl (cM cI x.Rest)),.d (.sl (cM cI x.Feasts)),.d (.sl (cM cI x.Shut))] ys k:=rfl
theorem bL.eq2 {β:Type} (x:bL) (ks:List Nat) (ys:List V) (k:Bool→Option β):dR ks ys (aC x.cells) k = dR ks ys [.d (.str x.Name),.d (.int .i64 x.Order),.d (.int .i64 x.Currency),.d (.sl (cM cI x.Rest)),.d (.sl (cM cI x.Feasts)),.d (.sl (cM cI x.Shut))] k:=rfl
theorem bL.lens {β:Type} (x:bL) (y:Option β):o8 (aC x.cells) 6 y = y:=rfl
theorem bL.vsets {β:Type} (x:bL) (z:List V) (o:Nat) (k:List V→Option β):dH z o (aC x.cells) k = dH z o [.d (.str x.Name),.d (.int .i64 x.Order),.d (.int .i64 x.Currency),.d (.sl (cM cI x.Rest)),.d (.sl (cM cI x.Feasts)),.d (.sl (cM cI x.Shut))] k:=rfl
theorem bL.st_d {β:Type} (x:bL) (y:D) (sz off id:Nat) (kw:V→List (Nat × Option aY)→Option β):aO sz off id (.d y) (some (.box (aC x.cells))) kw = aO sz off id (.d y) (some (.box [.d (.str x.Name),.d (.int .i64 x.Order),.d (.int .i64 x.Currency),.d (.sl (cM cI x.Rest)),.d (.sl (cM cI x.Feasts)),.d (.sl (cM cI x.Shut))])) kw:=rfl
theorem bL.st_nil {β:Type} (x:bL)  (sz off id:Nat) (kw:V→List (Nat × Option aY)→Option β):aO sz off id .nil (some (.box (aC x.cells))) kw = aO sz off id .nil (some (.box [.d (.str x.Name),.d (.int .i64 x.Order),.d (.int .i64 x.Currency),.d (.sl (cM cI x.Rest)),.d (.sl (cM cI x.Feasts)),.d (.sl (cM cI x.Shut))])) kw:=rfl
theorem bL.st_own {β:Type} (x:bL) (i v:Nat) (sz off id:Nat) (kw:V→List (Nat × Option aY)→Option β):aO sz off id (.own i v) (some (.box (aC x.cells))) kw = aO sz off id (.own i v) (some (.box [.d (.str x.Name),.d (.int .i64 x.Order),.d (.int .i64 x.Currency),.d (.sl (cM cI x.Rest)),.d (.sl (cM cI x.Feasts)),.d (.sl (cM cI x.Shut))])) kw:=rfl
theorem bL.st_agg {β:Type} (x:bL) (y:List V) (sz off id:Nat) (kw:V→List (Nat × Option aY)→Option β):aO sz off id (.agg y) (some (.box (aC x.cells))) kw = aO sz off id (.agg y) (some (.box [.d (.str x.Name),.d (.int .i64 x.Order),.d (.int .i64 x.Currency),.d (.sl (cM cI x.Rest)),.d (.sl (cM cI x.Feasts)),.d (.sl (cM cI x.Shut))])) kw:=rfl
theorem bL.st_ptr {β:Type} (x:bL) (i v:Nat) (sz off id:Nat) (kw:V→List (Nat × Option aY)→Option β):aO sz off id (.ptr i v) (some (.box (aC x.cells))) kw = aO sz off id (.ptr i v) (some (.box [.d (.str x.Name),.d (.int .i64 x.Order),.d (.int .i64 x.Currency),.d (.sl (cM cI x.Rest)),.d (.sl (cM cI x.Feasts)),.d (.sl (cM cI x.Shut))])) kw:=rfl
theorem bL.part {β:Type} (x:bL) (off id:Nat) (b:Option aY) (kw:V→List (Nat × Option aY)→Option β):aO 6 (off + 1) id (cO x.cells) b kw = aO 6 (off + 1) id (.agg [.d (.str x.Name),.d (.int .i64 x.Order),.d (.int .i64 x.Currency),.d (.sl (cM cI x.Rest)),.d (.sl (cM cI x.Feasts)),.d (.sl (cM cI x.Shut))]) b kw:=rfl
theorem bL.put {β:Type} (x:bL) (id:Nat) (cs:List V) (hc:cs.length = 6) (kw:V→List (Nat × Option aY)→Option β):aO 6 0 id (cO x.cells) (some (.box cs)) kw = kw .any [(id,some (.box (aC x.cells)))]:=cW 6 id _ rfl cs hc
theorem bL.rset {β:Type} (x:bL) (off:Nat) (d:D) (ds:List D) (n:Nat) (k:List D→Option β):bT x.cells off (d :: ds) n k = bT [.str x.Name,.int .i64 x.Order,.int .i64 x.Currency,.sl (cM cI x.Rest),.sl (cM cI x.Feasts),.sl (cM cI x.Shut)] off (d :: ds) n k:=rfl
theorem bL.rfull {β:Type} (x y:bL) (k:List D→Option β):bT x.cells 0 y.cells 6 k = k y.cells:=by unfold bT; exact (if_pos ⟨rfl,Nat.le_refl _⟩).trans rfl
theorem bL.get0 {β:Type} (x:bL) (k:D→Option β):cC x.cells 0 k = k (.str x.Name):=rfl
theorem bL.get1 {β:Type} (x:bL) (k:D→Option β):cC x.cells 1 k = k (.int .i64 x.Order):=rfl
theorem bL.get2 {β:Type} (x:bL) (k:D→Option β):cC x.cells 2 k = k (.int .i64 x.Currency):=rfl
theorem bL.get3 {β:Type} (x:bL) (k:D→Option β):cC x.cells 3 k = k (.sl (cM cI x.Rest)):=rfl
theorem bL.get4 {β:Type} (x:bL) (k:D→Option β):cC x.cells 4 k = k (.sl (cM cI x.Feasts)):=rfl
theorem bL.get5 {β:Type} (x:bL) (k:D→Option β):cC x.cells 5 k = k (.sl (cM cI x.Shut)):=rfl
theorem bL.sub0_6 {β:Type} (x:bL) (k:List D→Option β):m0 x.cells 0 6 k = k x.cells:=rfl
theorem bL.cells_mk (f0:ByteArray) (f1:Int) (f2:Int) (f3:List Int) (f4:List Int) (f5:List Int):bL.cells (bL.mk f0 f1 f2 f3 f4 f5) = [.str f0,.int .i64 f1,.int .i64 f2,.sl (cM cI f3),.sl (cM cI f4),.sl (cM cI f5)]:=rfl
structure bO where
 Grade:Int
 deriving Inhabited
def bO.cells (x:bO):List D:=[.int .i64 x.Grade]
theorem bO.sized (xs:List bO):sized 1 (cM bO.cells xs) = true:=fG _ _ (fun x=>by rfl) xs
theorem bO.len (x:bO):x.cells.length = 1:=rfl
theorem bO.size {β:Type} (x:bO) (y:Option β):kY x.cells 1 y = y:=rfl
theorem bO.eq1 {β:Type} (x:bO) (ks:List Nat) (ys:List V) (k:Bool→Option β):dR ks (aC x.cells) ys k = dR ks [.d (.int .i64 x.Grade)] ys k:=rfl
theorem bO.eq2 {β:Type} (x:bO) (ks:List Nat) (ys:List V) (k:Bool→Option β):dR ks ys (aC x.cells) k = dR ks ys [.d (.int .i64 x.Grade)] k:=rfl
theorem bO.lens {β:Type} (x:bO) (y:Option β):o8 (aC x.cells) 1 y = y:=rfl
theorem bO.vsets {β:Type} (x:bO) (z:List V) (o:Nat) (k:List V→Option β):dH z o (aC x.cells) k = dH z o [.d (.int .i64 x.Grade)] k:=rfl
theorem bO.st_d {β:Type} (x:bO) (y:D) (sz off id:Nat) (kw:V→List (Nat × Option aY)→Option β):aO sz off id (.d y) (some (.box (aC x.cells))) kw = aO sz off id (.d y) (some (.box [.d (.int .i64 x.Grade)])) kw:=rfl
theorem bO.st_nil {β:Type} (x:bO)  (sz off id:Nat) (kw:V→List (Nat × Option aY)→Option β):aO sz off id .nil (some (.box (aC x.cells))) kw = aO sz off id .nil (some (.box [.d (.int .i64 x.Grade)])) kw:=rfl
theorem bO.st_own {β:Type} (x:bO) (i v:Nat) (sz off id:Nat) (kw:V→List (Nat × Option aY)→Option β):aO sz off id (.own i v) (some (.box (aC x.cells))) kw = aO sz off id (.own i v) (some (.box [.d (.int .i64 x.Grade)])) kw:=rfl
theorem bO.st_agg {β:Type} (x:bO) (y:List V) (sz off id:Nat) (kw:V→List (Nat × Option aY)→Option β):aO sz off id (.agg y) (some (.box (aC x.cells))) kw = aO sz off id (.agg y) (some (.box [.d (.int .i64 x.Grade)])) kw:=rfl
theorem bO.st_ptr {β:Type} (x:bO) (i v:Nat) (sz off id:Nat) (kw:V→List (Nat × Option aY)→Option β):aO sz off id (.ptr i v) (some (.box (aC x.cells))) kw = aO sz off id (.ptr i v) (some (.box [.d (.int .i64 x.Grade)])) kw:=rfl
theorem bO.part {β:Type} (x:bO) (off id:Nat) (b:Option aY) (kw:V→List (Nat × Option aY)→Option β):aO 1 (off + 1) id (cO x.cells) b kw = aO 1 (off + 1) id (.agg [.d (.int .i64 x.Grade)]) b kw:=rfl
theorem bO.put {β:Type} (x:bO) (id:Nat) (cs:List V) (hc:cs.length = 1) (kw:V→List (Nat × Option aY)→Option β):aO 1 0 id (cO x.cells) (some (.box cs)) kw = kw .any [(id,some (.box (aC x.cells)))]:=cW 1 id _ rfl cs hc
theorem bO.rset {β:Type} (x:bO) (off:Nat) (d:D) (ds:List D) (n:Nat) (k:List D→Option β):bT x.cells off (d :: ds) n k = bT [.int .i64 x.Grade] off (d :: ds) n k:=rfl
theorem bO.rfull {β:Type} (x y:bO) (k:List D→Option β):bT x.cells 0 y.cells 1 k = k y.cells:=by unfold bT; exact (if_pos ⟨rfl,Nat.le_refl _⟩).trans rfl
theorem bO.get0 {β:Type} (x:bO) (k:D→Option β):cC x.cells 0 k = k (.int .i64 x.Grade):=rfl
theorem bO.sub0_1 {β:Type} (x:bO) (k:List D→Option β):m0 x.cells 0 1 k = k x.cells:=rfl
theorem bO.cells_mk (f0:Int):bO.cells (bO.mk f0) = [.int .i64 f0]:=rfl
structure bU where
 Name:ByteArray
 City:Int
 Group:Int
 deriving Inhabited
def bU.cells (x:bU):List D:=[.str x.Name,.int .i64 x.City,.int .i64 x.Group]
theorem bU.sized (xs:List bU):sized 3 (cM bU.cells xs) = true:=fG _ _ (fun x=>by rfl) xs
theorem bU.len (x:bU):x.cells.length = 3:=rfl
theorem bU.size {β:Type} (x:bU) (y:Option β):kY x.cells 3 y = y:=rfl
theorem bU.eq1 {β:Type} (x:bU) (ks:List Nat) (ys:List V) (k:Bool→Option β):dR ks (aC x.cells) ys k = dR ks [.d (.str x.Name),.d (.int .i64 x.City),.d (.int .i64 x.Group)] ys k:=rfl
theorem bU.eq2 {β:Type} (x:bU) (ks:List Nat) (ys:List V) (k:Bool→Option β):dR ks ys (aC x.cells) k = dR ks ys [.d (.str x.Name),.d (.int .i64 x.City),.d (.int .i64 x.Group)] k:=rfl
theorem bU.lens {β:Type} (x:bU) (y:Option β):o8 (aC x.cells) 3 y = y:=rfl
theorem bU.vsets {β:Type} (x:bU) (z:List V) (o:Nat) (k:List V→Option β):dH z o (aC x.cells) k = dH z o [.d (.str x.Name),.d (.int .i64 x.City),.d (.int .i64 x.Group)] k:=rfl
theorem bU.st_d {β:Type} (x:bU) (y:D) (sz off id:Nat) (kw:V→List (Nat × Option aY)→Option β):aO sz off id (.d y) (some (.box (aC x.cells))) kw = aO sz off id (.d y) (some (.box [.d (.str x.Name),.d (.int .i64 x.City),.d (.int .i64 x.Group)])) kw:=rfl
theorem bU.st_nil {β:Type} (x:bU)  (sz off id:Nat) (kw:V→List (Nat × Option aY)→Option β):aO sz off id .nil (some (.box (aC x.cells))) kw = aO sz off id .nil (some (.box [.d (.str x.Name),.d (.int .i64 x.City),.d (.int .i64 x.Group)])) kw:=rfl
theorem bU.st_own {β:Type} (x:bU) (i v:Nat) (sz off id:Nat) (kw:V→List (Nat × Option aY)→Option β):aO sz off id (.own i v) (some (.box (aC x.cells))) kw = aO sz off id (.own i v) (some (.box [.d (.str x.Name),.d (.int .i64 x.City),.d (.int .i64 x.Group)])) kw:=rfl
theorem bU.st_agg {β:Type} (x:bU) (y:List V) (sz off id:Nat) (kw:V→List (Nat × Option aY)→Option β):aO sz off id (.agg y) (some (.box (aC x.cells))) kw = aO sz off id (.agg y) (some (.box [.d (.str x.Name),.d (.int .i64 x.City),.d (.int .i64 x.Group)])) kw:=rfl
theorem bU.st_ptr {β:Type} (x:bU) (i v:Nat) (sz off id:Nat) (kw:V→List (Nat × Option aY)→Option β):aO sz off id (.ptr i v) (some (.box (aC x.cells))) kw = aO sz off id (.ptr i v) (some (.box [.d (.str x.Name),.d (.int .i64 x.City),.d (.int .i64 x.Group)])) kw:=rfl
theorem bU.part {β:Type} (x:bU) (off id:Nat) (b:Option aY) (kw:V→List (Nat × Option aY)→Option β):aO 3 (off + 1) id (cO x.cells) b kw = aO 3 (off + 1) id (.agg [.d (.str x.Name),.d (.int .i64 x.City),.d (.int .i64 x.Group)]) b kw:=rfl
theorem bU.put {β:Type} (x:bU) (id:Nat) (cs:List V) (hc:cs.length = 3) (kw:V→List (Nat × Option aY)→Option β):aO 3 0 id (cO x.cells) (some (.box cs)) kw = kw .any [(id,some (.box (aC x.cells)))]:=cW 3 id _ rfl cs hc
theorem bU.rset {β:Type} (x:bU) (off:Nat) (d:D) (ds:List D) (n:Nat) (k:List D→Option β):bT x.cells off (d :: ds) n k = bT [.str x.Name,.int .i64 x.City,.int .i64 x.Group] off (d :: ds) n k:=rfl
theorem bU.rfull {β:Type} (x y:bU) (k:List D→Option β):bT x.cells 0 y.cells 3 k = k y.cells:=by unfold bT; exact (if_pos ⟨rfl,Nat.le_refl _⟩).trans rfl
theorem bU.get0 {β:Type} (x:bU) (k:D→Option β):cC x.cells 0 k = k (.str x.Name):=rfl
theorem bU.get1 {β:Type} (x:bU) (k:D→Option β):cC x.cells 1 k = k (.int .i64 x.City):=rfl
theorem bU.get2 {β:Type} (x:bU) (k:D→Option β):cC x.cells 2 k = k (.int .i64 x.Group):=rfl
theorem bU.sub0_3 {β:Type} (x:bU) (k:List D→Option β):m0 x.cells 0 3 k = k x.cells:=rfl
theorem bU.cells_mk (f0:ByteArray) (f1:Int) (f2:Int):bU.cells (bU.mk f0 f1 f2) = [.str f0,.int .i64 f1,.int .i64 f2]:=rfl
structure bH where
 Ask:Int
 By:Int
 Whole:Bool
 deriving Inhabited
def bH.cells (x:bH):List D:=[.int .i64 x.Ask,.int .i64 x.By,.bool x.Whole]
theorem bH.sized (xs:List bH):sized 3 (cM bH.cells xs) = true:=fG _ _ (fun x=>by rfl) xs
theorem bH.len (x:bH):x.cells.length = 3:=rfl
theorem bH.size {β:Type} (x:bH) (y:Option β):kY x.cells 3 y = y:=rfl
theorem bH.eq1 {β:Type} (x:bH) (ks:List Nat) (ys:List V) (k:Bool→Option β):dR ks (aC x.cells) ys k = dR ks [.d (.int .i64 x.Ask),.d (.int .i64 x.By),.d (.bool x.Whole)] ys k:=rfl
theorem bH.eq2 {β:Type} (x:bH) (ks:List Nat) (ys:List V) (k:Bool→Option β):dR ks ys (aC x.cells) k = dR ks ys [.d (.int .i64 x.Ask),.d (.int .i64 x.By),.d (.bool x.Whole)] k:=rfl
theorem bH.lens {β:Type} (x:bH) (y:Option β):o8 (aC x.cells) 3 y = y:=rfl
theorem bH.vsets {β:Type} (x:bH) (z:List V) (o:Nat) (k:List V→Option β):dH z o (aC x.cells) k = dH z o [.d (.int .i64 x.Ask),.d (.int .i64 x.By),.d (.bool x.Whole)] k:=rfl
theorem bH.st_d {β:Type} (x:bH) (y:D) (sz off id:Nat) (kw:V→List (Nat × Option aY)→Option β):aO sz off id (.d y) (some (.box (aC x.cells))) kw = aO sz off id (.d y) (some (.box [.d (.int .i64 x.Ask),.d (.int .i64 x.By),.d (.bool x.Whole)])) kw:=rfl
theorem bH.st_nil {β:Type} (x:bH)  (sz off id:Nat) (kw:V→List (Nat × Option aY)→Option β):aO sz off id .nil (some (.box (aC x.cells))) kw = aO sz off id .nil (some (.box [.d (.int .i64 x.Ask),.d (.int .i64 x.By),.d (.bool x.Whole)])) kw:=rfl
theorem bH.st_own {β:Type} (x:bH) (i v:Nat) (sz off id:Nat) (kw:V→List (Nat × Option aY)→Option β):aO sz off id (.own i v) (some (.box (aC x.cells))) kw = aO sz off id (.own i v) (some (.box [.d (.int .i64 x.Ask),.d (.int .i64 x.By),.d (.bool x.Whole)])) kw:=rfl
theorem bH.st_agg {β:Type} (x:bH) (y:List V) (sz off id:Nat) (kw:V→List (Nat × Option aY)→Option β):aO sz off id (.agg y) (some (.box (aC x.cells))) kw = aO sz off id (.agg y) (some (.box [.d (.int .i64 x.Ask),.d (.int .i64 x.By),.d (.bool x.Whole)])) kw:=rfl
theorem bH.st_ptr {β:Type} (x:bH) (i v:Nat) (sz off id:Nat) (kw:V→List (Nat × Option aY)→Option β):aO sz off id (.ptr i v) (some (.box (aC x.cells))) kw = aO sz off id (.ptr i v) (some (.box [.d (.int .i64 x.Ask),.d (.int .i64 x.By),.d (.bool x.Whole)])) kw:=rfl
theorem bH.part {β:Type} (x:bH) (off id:Nat) (b:Option aY) (kw:V→List (Nat × Option aY)→Option β):aO 3 (off + 1) id (cO x.cells) b kw = aO 3 (off + 1) id (.agg [.d (.int .i64 x.Ask),.d (.int .i64 x.By),.d (.bool x.Whole)]) b kw:=rfl
theorem bH.put {β:Type} (x:bH) (id:Nat) (cs:List V) (hc:cs.length = 3) (kw:V→List (Nat × Option aY)→Option β):aO 3 0 id (cO x.cells) (some (.box cs)) kw = kw .any [(id,some (.box (aC x.cells)))]:=cW 3 id _ rfl cs hc
theorem bH.rset {β:Type} (x:bH) (off:Nat) (d:D) (ds:List D) (n:Nat) (k:List D→Option β):bT x.cells off (d :: ds) n k = bT [.int .i64 x.Ask,.int .i64 x.By,.bool x.Whole] off (d :: ds) n k:=rfl
theorem bH.rfull {β:Type} (x y:bH) (k:List D→Option β):bT x.cells 0 y.cells 3 k = k y.cells:=by unfold bT; exact (if_pos ⟨rfl,Nat.le_refl _⟩).trans rfl
theorem bH.get0 {β:Type} (x:bH) (k:D→Option β):cC x.cells 0 k = k (.int .i64 x.Ask):=rfl
theorem bH.get1 {β:Type} (x:bH) (k:D→Option β):cC x.cells 1 k = k (.int .i64 x.By):=rfl
theorem bH.get2 {β:Type} (x:bH) (k:D→Option β):cC x.cells 2 k = k (.bool x.Whole):=rfl
theorem bH.sub0_3 {β:Type} (x:bH) (k:List D→Option β):m0 x.cells 0 3 k = k x.cells:=rfl
theorem bH.cells_mk (f0:Int) (f1:Int) (f2:Bool):bH.cells (bH.mk f0 f1 f2) = [.int .i64 f0,.int .i64 f1,.bool f2]:=rfl
structure cE where
 Op:Int
 N:Int
 Args:List (List D)
 deriving Inhabited
def cE.cells (x:cE):List D:=[.int .i64 x.Op,.int .i64 x.N,.sl (cM cD x.Args)]
theorem cE.sized (xs:List cE):sized 3 (cM cE.cells xs) = true:=fG _ _ (fun x=>by rfl) xs
theorem cE.len (x:cE):x.cells.length = 3:=rfl
theorem cE.size {β:Type} (x:cE) (y:Option β):kY x.cells 3 y = y:=rfl
theorem cE.eq1 {β:Type} (x:cE) (ks:List Nat) (ys:List V) (k:Bool→Option β):dR ks (aC x.cells) ys k = dR ks [.d (.int .i64 x.Op),.d (.int .i64 x.N),.d (.sl (cM cD x.Args))] ys k:=rfl
theorem cE.eq2 {β:Type} (x:cE) (ks:List Nat) (ys:List V) (k:Bool→Option β):dR ks ys (aC x.cells) k = dR ks ys [.d (.int .i64 x.Op),.d (.int .i64 x.N),.d (.sl (cM cD x.Args))] k:=rfl
theorem cE.lens {β:Type} (x:cE) (y:Option β):o8 (aC x.cells) 3 y = y:=rfl
theorem cE.vsets {β:Type} (x:cE) (z:List V) (o:Nat) (k:List V→Option β):dH z o (aC x.cells) k = dH z o [.d (.int .i64 x.Op),.d (.int .i64 x.N),.d (.sl (cM cD x.Args))] k:=rfl
theorem cE.st_d {β:Type} (x:cE) (y:D) (sz off id:Nat) (kw:V→List (Nat × Option aY)→Option β):aO sz off id (.d y) (some (.box (aC x.cells))) kw = aO sz off id (.d y) (some (.box [.d (.int .i64 x.Op),.d (.int .i64 x.N),.d (.sl (cM cD x.Args))])) kw:=rfl
theorem cE.st_nil {β:Type} (x:cE)  (sz off id:Nat) (kw:V→List (Nat × Option aY)→Option β):aO sz off id .nil (some (.box (aC x.cells))) kw = aO sz off id .nil (some (.box [.d (.int .i64 x.Op),.d (.int .i64 x.N),.d (.sl (cM cD x.Args))])) kw:=rfl
theorem cE.st_own {β:Type} (x:cE) (i v:Nat) (sz off id:Nat) (kw:V→List (Nat × Option aY)→Option β):aO sz off id (.own i v) (some (.box (aC x.cells))) kw = aO sz off id (.own i v) (some (.box [.d (.int .i64 x.Op),.d (.int .i64 x.N),.d (.sl (cM cD x.Args))])) kw:=rfl
theorem cE.st_agg {β:Type} (x:cE) (y:List V) (sz off id:Nat) (kw:V→List (Nat × Option aY)→Option β):aO sz off id (.agg y) (some (.box (aC x.cells))) kw = aO sz off id (.agg y) (some (.box [.d (.int .i64 x.Op),.d (.int .i64 x.N),.d (.sl (cM cD x.Args))])) kw:=rfl
theorem cE.st_ptr {β:Type} (x:cE) (i v:Nat) (sz off id:Nat) (kw:V→List (Nat × Option aY)→Option β):aO sz off id (.ptr i v) (some (.box (aC x.cells))) kw = aO sz off id (.ptr i v) (some (.box [.d (.int .i64 x.Op),.d (.int .i64 x.N),.d (.sl (cM cD x.Args))])) kw:=rfl
theorem cE.part {β:Type} (x:cE) (off id:Nat) (b:Option aY) (kw:V→List (Nat × Option aY)→Option β):aO 3 (off + 1) id (cO x.cells) b kw = aO 3 (off + 1) id (.agg [.d (.int .i64 x.Op),.d (.int .i64 x.N),.d (.sl (cM cD x.Args))]) b kw:=rfl
theorem cE.put {β:Type} (x:cE) (id:Nat) (cs:List V) (hc:cs.length = 3) (kw:V→List (Nat × Option aY)→Option β):aO 3 0 id (cO x.cells) (some (.box cs)) kw = kw .any [(id,some (.box (aC x.cells)))]:=cW 3 id _ rfl cs hc
theorem cE.rset {β:Type} (x:cE) (off:Nat) (d:D) (ds:List D) (n:Nat) (k:List D→Option β):bT x.cells off (d :: ds) n k = bT [.int .i64 x.Op,.int .i64 x.N,.sl (cM cD x.Args)] off (d :: ds) n k:=rfl
theorem cE.rfull {β:Type} (x y:cE) (k:List D→Option β):bT x.cells 0 y.cells 3 k = k y.cells:=by unfold bT; exact (if_pos ⟨rfl,Nat.le_refl _⟩).trans rfl
theorem cE.get0 {β:Type} (x:cE) (k:D→Option β):cC x.cells 0 k = k (.int .i64 x.Op):=rfl
theorem cE.get1 {β:Type} (x:cE) (k:D→Option β):cC x.cells 1 k = k (.int .i64 x.N):=rfl
theorem cE.get2 {β:Type} (x:cE) (k:D→Option β):cC x.cells 2 k = k (.sl (cM cD x.Args)):=rfl
theorem cE.sub0_3 {β:Type} (x:cE) (k:List D→Option β):m0 x.cells 0 3 k = k x.cells:=rfl
theorem cE.cells_mk (f0:Int) (f1:Int) (f2:List (List D)):cE.cells (cE.mk f0 f1 f2) = [.int .i64 f0,.int .i64 f1,.sl (cM cD f2)]:=rfl
structure bW where
 Ask:Int
 Term:cE
 deriving Inhabited
def bW.cells (x:bW):List D:=[.int .i64 x.Ask,.int .i64 x.Term.Op,.int .i64 x.Term.N,.sl (cM cD x.Term.Args)]
theorem bW.sized (xs:List bW):sized 4 (cM bW.cells xs) = true:=fG _ _ (fun x=>by rfl) xs
theorem bW.len (x:bW):x.cells.length = 4:=rfl
theorem bW.size {β:Type} (x:bW) (y:Option β):kY x.cells 4 y = y:=rfl
theorem bW.eq1 {β:Type} (x:bW) (ks:List Nat) (ys:List V) (k:Bool→Option β):dR ks (aC x.cells) ys k = dR ks [.d (.int .i64 x.Ask),.d (.int .i64 x.Term.Op),.d (.int .i64 x.Term.N),.d (.sl (cM cD x.Term.Args))] ys k:=rfl
theorem bW.eq2 {β:Type} (x:bW) (ks:List Nat) (ys:List V) (k:Bool→Option β):dR ks ys (aC x.cells) k = dR ks ys [.d (.int .i64 x.Ask),.d (.int .i64 x.Term.Op),.d (.int .i64 x.Term.N),.d (.sl (cM cD x.Term.Args))] k:=rfl
theorem bW.lens {β:Type} (x:bW) (y:Option β):o8 (aC x.cells) 4 y = y:=rfl
theorem bW.vsets {β:Type} (x:bW) (z:List V) (o:Nat) (k:List V→Option β):dH z o (aC x.cells) k = dH z o [.d (.int .i64 x.Ask),.d (.int .i64 x.Term.Op),.d (.int .i64 x.Term.N),.d (.sl (cM cD x.Term.Args))] k:=rfl
theorem bW.st_d {β:Type} (x:bW) (y:D) (sz off id:Nat) (kw:V→List (Nat × Option aY)→Option β):aO sz off id (.d y) (some (.box (aC x.cells))) kw = aO sz off id (.d y) (some (.box [.d (.int .i64 x.Ask),.d (.int .i64 x.Term.Op),.d (.int .i64 x.Term.N),.d (.sl (cM cD x.Term.Args))])) kw:=rfl
theorem bW.st_nil {β:Type} (x:bW)  (sz off id:Nat) (kw:V→List (Nat × Option aY)→Option β):aO sz off id .nil (some (.box (aC x.cells))) kw = aO sz off id .nil (some (.box [.d (.int .i64 x.Ask),.d (.int .i64 x.Term.Op),.d (.int .i64 x.Term.N),.d (.sl (cM cD x.Term.Args))])) kw:=rfl
theorem bW.st_own {β:Type} (x:bW) (i v:Nat) (sz off id:Nat) (kw:V→List (Nat × Option aY)→Option β):aO sz off id (.own i v) (some (.box (aC x.cells))) kw = aO sz off id (.own i v) (some (.box [.d (.int .i64 x.Ask),.d (.int .i64 x.Term.Op),.d (.int .i64 x.Term.N),.d (.sl (cM cD x.Term.Args))])) kw:=rfl
theorem bW.st_agg {β:Type} (x:bW) (y:List V) (sz off id:Nat) (kw:V→List (Nat × Option aY)→Option β):aO sz off id (.agg y) (some (.box (aC x.cells))) kw = aO sz off id (.agg y) (some (.box [.d (.int .i64 x.Ask),.d (.int .i64 x.Term.Op),.d (.int .i64 x.Term.N),.d (.sl (cM cD x.Term.Args))])) kw:=rfl
theorem bW.st_ptr {β:Type} (x:bW) (i v:Nat) (sz off id:Nat) (kw:V→List (Nat × Option aY)→Option β):aO sz off id (.ptr i v) (some (.box (aC x.cells))) kw = aO sz off id (.ptr i v) (some (.box [.d (.int .i64 x.Ask),.d (.int .i64 x.Term.Op),.d (.int .i64 x.Term.N),.d (.sl (cM cD x.Term.Args))])) kw:=rfl
theorem bW.part {β:Type} (x:bW) (off id:Nat) (b:Option aY) (kw:V→List (Nat × Option aY)→Option β):aO 4 (off + 1) id (cO x.cells) b kw = aO 4 (off + 1) id (.agg [.d (.int .i64 x.Ask),.d (.int .i64 x.Term.Op),.d (.int .i64 x.Term.N),.d (.sl (cM cD x.Term.Args))]) b kw:=rfl
theorem bW.put {β:Type} (x:bW) (id:Nat) (cs:List V) (hc:cs.length = 4) (kw:V→List (Nat × Option aY)→Option β):aO 4 0 id (cO x.cells) (some (.box cs)) kw = kw .any [(id,some (.box (aC x.cells)))]:=cW 4 id _ rfl cs hc
theorem bW.rset {β:Type} (x:bW) (off:Nat) (d:D) (ds:List D) (n:Nat) (k:List D→Option β):bT x.cells off (d :: ds) n k = bT [.int .i64 x.Ask,.int .i64 x.Term.Op,.int .i64 x.Term.N,.sl (cM cD x.Term.Args)] off (d :: ds) n k:=rfl
theorem bW.rfull {β:Type} (x y:bW) (k:List D→Option β):bT x.cells 0 y.cells 4 k = k y.cells:=by unfold bT; exact (if_pos ⟨rfl,Nat.le_refl _⟩).trans rfl
theorem bW.get0 {β:Type} (x:bW) (k:D→Option β):cC x.cells 0 k = k (.int .i64 x.Ask):=rfl
theorem bW.get1 {β:Type} (x:bW) (k:D→Option β):cC x.cells 1 k = k (.int .i64 x.Term.Op):=rfl
theorem bW.get2 {β:Type} (x:bW) (k:D→Option β):cC x.cells 2 k = k (.int .i64 x.Term.N):=rfl
theorem bW.get3 {β:Type} (x:bW) (k:D→Option β):cC x.cells 3 k = k (.sl (cM cD x.Term.Args)):=rfl
theorem bW.sub0_4 {β:Type} (x:bW) (k:List D→Option β):m0 x.cells 0 4 k = k x.cells:=rfl
theorem bW.sub1_3 {β:Type} (x:bW) (k:List D→Option β):m0 x.cells 1 3 k = k (cE.cells x.Term):=rfl
theorem bW.cells_mk (f0:Int) (f1:cE):bW.cells (bW.mk f0 f1) = [.int .i64 f0,.int .i64 f1.Op,.int .i64 f1.N,.sl (cM cD f1.Args)]:=rfl
structure bD where
 Name:ByteArray
 Accepts:Bool
 Choices:List bH
 Rules:List bW
 deriving Inhabited
def bD.cells (x:bD):List D:=[.str x.Name,.bool x.Accepts,.sl (cM bH.cells x.Choices),.sl (cM bW.cells x.Rules)]
theorem bD.sized (xs:List bD):sized 4 (cM bD.cells xs) = true:=fG _ _ (fun x=>by rfl) xs
theorem bD.len (x:bD):x.cells.length = 4:=rfl
theorem bD.size {β:Type} (x:bD) (y:Option β):kY x.cells 4 y = y:=rfl
theorem bD.eq1 {β:Type} (x:bD) (ks:List Nat) (ys:List V) (k:Bool→Option β):dR ks (aC x.cells) ys k = dR ks [.d (.str x.Name),.d (.bool x.Accepts),.d (.sl (cM bH.cells x.Choices)),.d (.sl (cM bW.cells x.Rules))] ys k:=rfl
theorem bD.eq2 {β:Type} (x:bD) (ks:List Nat) (ys:List V) (k:Bool→Option β):dR ks ys (aC x.cells) k = dR ks ys [.d (.str x.Name),.d (.bool x.Accepts),.d (.sl (cM bH.cells x.Choices)),.d (.sl (cM bW.cells x.Rules))] k:=rfl
theorem bD.lens {β:Type} (x:bD) (y:Option β):o8 (aC x.cells) 4 y = y:=rfl
theorem bD.vsets {β:Type} (x:bD) (z:List V) (o:Nat) (k:List V→Option β):dH z o (aC x.cells) k = dH z o [.d (.str x.Name),.d (.bool x.Accepts),.d (.sl (cM bH.cells x.Choices)),.d (.sl (cM bW.cells x.Rules))] k:=rfl
theorem bD.st_d {β:Type} (x:bD) (y:D) (sz off id:Nat) (kw:V→List (Nat × Option aY)→Option β):aO sz off id (.d y) (some (.box (aC x.cells))) kw = aO sz off id (.d y) (some (.box [.d (.str x.Name),.d (.bool x.Accepts),.d (.sl (cM bH.cells x.Choices)),.d (.sl (cM bW.cells x.Rules))])) kw:=rfl
theorem bD.st_nil {β:Type} (x:bD)  (sz off id:Nat) (kw:V→List (Nat × Option aY)→Option β):aO sz off id .nil (some (.box (aC x.cells))) kw = aO sz off id .nil (some (.box [.d (.str x.Name),.d (.bool x.Accepts),.d (.sl (cM bH.cells x.Choices)),.d (.sl (cM bW.cells x.Rules))])) kw:=rfl
theorem bD.st_own {β:Type} (x:bD) (i v:Nat) (sz off id:Nat) (kw:V→List (Nat × Option aY)→Option β):aO sz off id (.own i v) (some (.box (aC x.cells))) kw = aO sz off id (.own i v) (some (.box [.d (.str x.Name),.d (.bool x.Accepts),.d (.sl (cM bH.cells x.Choices)),.d (.sl (cM bW.cells x.Rules))])) kw:=rfl
theorem bD.st_agg {β:Type} (x:bD) (y:List V) (sz off id:Nat) (kw:V→List (Nat × Option aY)→Option β):aO sz off id (.agg y) (some (.box (aC x.cells))) kw = aO sz off id (.agg y) (some (.box [.d (.str x.Name),.d (.bool x.Accepts),.d (.sl (cM bH.cells x.Choices)),.d (.sl (cM bW.cells x.Rules))])) kw:=rfl
theorem bD.st_ptr {β:Type} (x:bD) (i v:Nat) (sz off id:Nat) (kw:V→List (Nat × Option aY)→Option β):aO sz off id (.ptr i v) (some (.box (aC x.cells))) kw = aO sz off id (.ptr i v) (some (.box [.d (.str x.Name),.d (.bool x.Accepts),.d (.sl (cM bH.cells x.Choices)),.d (.sl (cM bW.cells x.Rules))])) kw:=rfl
theorem bD.part {β:Type} (x:bD) (off id:Nat) (b:Option aY) (kw:V→List (Nat × Option aY)→Option β):aO 4 (off + 1) id (cO x.cells) b kw = aO 4 (off + 1) id (.agg [.d (.str x.Name),.d (.bool x.Accepts),.d (.sl (cM bH.cells x.Choices)),.d (.sl (cM bW.cells x.Rules))]) b kw:=rfl
theorem bD.put {β:Type} (x:bD) (id:Nat) (cs:List V) (hc:cs.length = 4) (kw:V→List (Nat × Option aY)→Option β):aO 4 0 id (cO x.cells) (some (.box cs)) kw = kw .any [(id,some (.box (aC x.cells)))]:=cW 4 id _ rfl cs hc
theorem bD.rset {β:Type} (x:bD) (off:Nat) (d:D) (ds:List D) (n:Nat) (k:List D→Option β):bT x.cells off (d :: ds) n k = bT [.str x.Name,.bool x.Accepts,.sl (cM bH.cells x.Choices),.sl (cM bW.cells x.Rules)] off (d :: ds) n k:=rfl
theorem bD.rfull {β:Type} (x y:bD) (k:List D→Option β):bT x.cells 0 y.cells 4 k = k y.cells:=by unfold bT; exact (if_pos ⟨rfl,Nat.le_refl _⟩).trans rfl
theorem bD.get0 {β:Type} (x:bD) (k:D→Option β):cC x.cells 0 k = k (.str x.Name):=rfl
theorem bD.get1 {β:Type} (x:bD) (k:D→Option β):cC x.cells 1 k = k (.bool x.Accepts):=rfl
theorem bD.get2 {β:Type} (x:bD) (k:D→Option β):cC x.cells 2 k = k (.sl (cM bH.cells x.Choices)):=rfl
theorem bD.get3 {β:Type} (x:bD) (k:D→Option β):cC x.cells 3 k = k (.sl (cM bW.cells x.Rules)):=rfl
theorem bD.sub0_4 {β:Type} (x:bD) (k:List D→Option β):m0 x.cells 0 4 k = k x.cells:=rfl
theorem bD.cells_mk (f0:ByteArray) (f1:Bool) (f2:List bH) (f3:List bW):bD.cells (bD.mk f0 f1 f2 f3) = [.str f0,.bool f1,.sl (cM bH.cells f2),.sl (cM bW.cells f3)]:=rfl
structure bA where
 From:Int
 To:Int
 Days:Int
 deriving Inhabited
def bA.cells (x:bA):List D:=[.int .i64 x.From,.int .i64 x.To,.int .i64 x.Days]
theorem bA.sized (xs:List bA):sized 3 (cM bA.cells xs) = true:=fG _ _ (fun x=>by rfl) xs
theorem bA.len (x:bA):x.cells.length = 3:=rfl
theorem bA.size {β:Type} (x:bA) (y:Option β):kY x.cells 3 y = y:=rfl
theorem bA.eq1 {β:Type} (x:bA) (ks:List Nat) (ys:List V) (k:Bool→Option β):dR ks (aC x.cells) ys k = dR ks [.d (.int .i64 x.From),.d (.int .i64 x.To),.d (.int .i64 x.Days)] ys k:=rfl
theorem bA.eq2 {β:Type} (x:bA) (ks:List Nat) (ys:List V) (k:Bool→Option β):dR ks ys (aC x.cells) k = dR ks ys [.d (.int .i64 x.From),.d (.int .i64 x.To),.d (.int .i64 x.Days)] k:=rfl
theorem bA.lens {β:Type} (x:bA) (y:Option β):o8 (aC x.cells) 3 y = y:=rfl
theorem bA.vsets {β:Type} (x:bA) (z:List V) (o:Nat) (k:List V→Option β):dH z o (aC x.cells) k = dH z o [.d (.int .i64 x.From),.d (.int .i64 x.To),.d (.int .i64 x.Days)] k:=rfl
theorem bA.st_d {β:Type} (x:bA) (y:D) (sz off id:Nat) (kw:V→List (Nat × Option aY)→Option β):aO sz off id (.d y) (some (.box (aC x.cells))) kw = aO sz off id (.d y) (some (.box [.d (.int .i64 x.From),.d (.int .i64 x.To),.d (.int .i64 x.Days)])) kw:=rfl
theorem bA.st_nil {β:Type} (x:bA)  (sz off id:Nat) (kw:V→List (Nat × Option aY)→Option β):aO sz off id .nil (some (.box (aC x.cells))) kw = aO sz off id .nil (some (.box [.d (.int .i64 x.From),.d (.int .i64 x.To),.d (.int .i64 x.Days)])) kw:=rfl
theorem bA.st_own {β:Type} (x:bA) (i v:Nat) (sz off id:Nat) (kw:V→List (Nat × Option aY)→Option β):aO sz off id (.own i v) (some (.box (aC x.cells))) kw = aO sz off id (.own i v) (some (.box [.d (.int .i64 x.From),.d (.int .i64 x.To),.d (.int .i64 x.Days)])) kw:=rfl
theorem bA.st_agg {β:Type} (x:bA) (y:List V) (sz off id:Nat) (kw:V→List (Nat × Option aY)→Option β):aO sz off id (.agg y) (some (.box (aC x.cells))) kw = aO sz off id (.agg y) (some (.box [.d (.int .i64 x.From),.d (.int .i64 x.To),.d (.int .i64 x.Days)])) kw:=rfl
theorem bA.st_ptr {β:Type} (x:bA) (i v:Nat) (sz off id:Nat) (kw:V→List (Nat × Option aY)→Option β):aO sz off id (.ptr i v) (some (.box (aC x.cells))) kw = aO sz off id (.ptr i v) (some (.box [.d (.int .i64 x.From),.d (.int .i64 x.To),.d (.int .i64 x.Days)])) kw:=rfl
theorem bA.part {β:Type} (x:bA) (off id:Nat) (b:Option aY) (kw:V→List (Nat × Option aY)→Option β):aO 3 (off + 1) id (cO x.cells) b kw = aO 3 (off + 1) id (.agg [.d (.int .i64 x.From),.d (.int .i64 x.To),.d (.int .i64 x.Days)]) b kw:=rfl
theorem bA.put {β:Type} (x:bA) (id:Nat) (cs:List V) (hc:cs.length = 3) (kw:V→List (Nat × Option aY)→Option β):aO 3 0 id (cO x.cells) (some (.box cs)) kw = kw .any [(id,some (.box (aC x.cells)))]:=cW 3 id _ rfl cs hc
theorem bA.rset {β:Type} (x:bA) (off:Nat) (d:D) (ds:List D) (n:Nat) (k:List D→Option β):bT x.cells off (d :: ds) n k = bT [.int .i64 x.From,.int .i64 x.To,.int .i64 x.Days] off (d :: ds) n k:=rfl
theorem bA.rfull {β:Type} (x y:bA) (k:List D→Option β):bT x.cells 0 y.cells 3 k = k y.cells:=by unfold bT; exact (if_pos ⟨rfl,Nat.le_refl _⟩).trans rfl
theorem bA.get0 {β:Type} (x:bA) (k:D→Option β):cC x.cells 0 k = k (.int .i64 x.From):=rfl
theorem bA.get1 {β:Type} (x:bA) (k:D→Option β):cC x.cells 1 k = k (.int .i64 x.To):=rfl
theorem bA.get2 {β:Type} (x:bA) (k:D→Option β):cC x.cells 2 k = k (.int .i64 x.Days):=rfl
theorem bA.sub0_3 {β:Type} (x:bA) (k:List D→Option β):m0 x.cells 0 3 k = k x.cells:=rfl
theorem bA.cells_mk (f0:Int) (f1:Int) (f2:Int):bA.cells (bA.mk f0 f1 f2) = [.int .i64 f0,.int .i64 f1,.int .i64 f2]:=rfl
structure bX where
 From:Int
 To:Int
 Num:Int
 Den:Int
 Since:Int
 deriving Inhabited
def bX.cells (x:bX):List D:=[.int .i64 x.From,.int .i64 x.To,.int .i64 x.Num,.int .i64 x.Den,.int .i64 x.Since]
theorem bX.sized (xs:List bX):sized 5 (cM bX.cells xs) = true:=fG _ _ (fun x=>by rfl) xs
theorem bX.len (x:bX):x.cells.length = 5:=rfl
theorem bX.size {β:Type} (x:bX) (y:Option β):kY x.cells 5 y = y:=rfl
theorem bX.eq1 {β:Type} (x:bX) (ks:List Nat) (ys:List V) (k:Bool→Option β):dR ks (aC x.cells) ys k = dR ks [.d (.int .i64 x.From),.d (.int .i64 x.To),.d (.int .i64 x.Num),.d (.int .i64 x.Den),.d (.int .i64 x.Since)] ys k:=rfl
theorem bX.eq2 {β:Type} (x:bX) (ks:List Nat) (ys:List V) (k:Bool→Option β):dR ks ys (aC x.cells) k = dR ks ys [.d (.int .i64 x.From),.d (.int .i64 x.To),.d (.int .i64 x.Num),.d (.int .i64 x.Den),.d (.int .i64 x.Since)] k:=rfl
theorem bX.lens {β:Type} (x:bX) (y:Option β):o8 (aC x.cells) 5 y = y:=rfl
theorem bX.vsets {β:Type} (x:bX) (z:List V) (o:Nat) (k:List V→Option β):dH z o (aC x.cells) k = dH z o [.d (.int .i64 x.From),.d (.int .i64 x.To),.d (.int .i64 x.Num),.d (.int .i64 x.Den),.d (.int .i64 x.Since)] k:=rfl
theorem bX.st_d {β:Type} (x:bX) (y:D) (sz off id:Nat) (kw:V→List (Nat × Option aY)→Option β):aO sz off id (.d y) (some (.box (aC x.cells))) kw = aO sz off id (.d y) (some (.box [.d (.int .i64 x.From),.d (.int .i64 x.To),.d (.int .i64 x.Num),.d (.int .i64 x.Den),.d (.int .i64 x.Since)])) kw:=rfl
theorem bX.st_nil {β:Type} (x:bX)  (sz off id:Nat) (kw:V→List (Nat × Option aY)→Option β):aO sz off id .nil (some (.box (aC x.cells))) kw = aO sz off id .nil (some (.box [.d (.int .i64 x.From),.d (.int .i64 x.To),.d (.int .i64 x.Num),.d (.int .i64 x.Den),.d (.int .i64 x.Since)])) kw:=rfl
theorem bX.st_own {β:Type} (x:bX) (i v:Nat) (sz off id:Nat) (kw:V→List (Nat × Option aY)→Option β):aO sz off id (.own i v) (some (.box (aC x.cells))) kw = aO sz off id (.own i v) (some (.box [.d (.int .i64 x.From),.d (.int .i64 x.To),.d (.int .i64 x.Num),.d (.int .i64 x.Den),.d (.int .i64 x.Since)])) kw:=rfl
theorem bX.st_agg {β:Type} (x:bX) (y:List V) (sz off id:Nat) (kw:V→List (Nat × Option aY)→Option β):aO sz off id (.agg y) (some (.box (aC x.cells))) kw = aO sz off id (.agg y) (some (.box [.d (.int .i64 x.From),.d (.int .i64 x.To),.d (.int .i64 x.Num),.d (.int .i64 x.Den),.d (.int .i64 x.Since)])) kw:=rfl
theorem bX.st_ptr {β:Type} (x:bX) (i v:Nat) (sz off id:Nat) (kw:V→List (Nat × Option aY)→Option β):aO sz off id (.ptr i v) (some (.box (aC x.cells))) kw = aO sz off id (.ptr i v) (some (.box [.d (.int .i64 x.From),.d (.int .i64 x.To),.d (.int .i64 x.Num),.d (.int .i64 x.Den),.d (.int .i64 x.Since)])) kw:=rfl
theorem bX.part {β:Type} (x:bX) (off id:Nat) (b:Option aY) (kw:V→List (Nat × Option aY)→Option β):aO 5 (off + 1) id (cO x.cells) b kw = aO 5 (off + 1) id (.agg [.d (.int .i64 x.From),.d (.int .i64 x.To),.d (.int .i64 x.Num),.d (.int .i64 x.Den),.d (.int .i64 x.Since)]) b kw:=rfl
theorem bX.put {β:Type} (x:bX) (id:Nat) (cs:List V) (hc:cs.length = 5) (kw:V→List (Nat × Option aY)→Option β):aO 5 0 id (cO x.cells) (some (.box cs)) kw = kw .any [(id,some (.box (aC x.cells)))]:=cW 5 id _ rfl cs hc
theorem bX.rset {β:Type} (x:bX) (off:Nat) (d:D) (ds:List D) (n:Nat) (k:List D→Option β):bT x.cells off (d :: ds) n k = bT [.int .i64 x.From,.int .i64 x.To,.int .i64 x.Num,.int .i64 x.Den,.int .i64 x.Since] off (d :: ds) n k:=rfl
theorem bX.rfull {β:Type} (x y:bX) (k:List D→Option β):bT x.cells 0 y.cells 5 k = k y.cells:=by unfold bT; exact (if_pos ⟨rfl,Nat.le_refl _⟩).trans rfl
theorem bX.get0 {β:Type} (x:bX) (k:D→Option β):cC x.cells 0 k = k (.int .i64 x.From):=rfl
theorem bX.get1 {β:Type} (x:bX) (k:D→Option β):cC x.cells 1 k = k (.int .i64 x.To):=rfl
theorem bX.get2 {β:Type} (x:bX) (k:D→Option β):cC x.cells 2 k = k (.int .i64 x.Num):=rfl
theorem bX.get3 {β:Type} (x:bX) (k:D→Option β):cC x.cells 3 k = k (.int .i64 x.Den):=rfl
theorem bX.get4 {β:Type} (x:bX) (k:D→Option β):cC x.cells 4 k = k (.int .i64 x.Since):=rfl
theorem bX.sub0_5 {β:Type} (x:bX) (k:List D→Option β):m0 x.cells 0 5 k = k x.cells:=rfl
theorem bX.cells_mk (f0:Int) (f1:Int) (f2:Int) (f3:Int) (f4:Int):bX.cells (bX.mk f0 f1 f2 f3 f4) = [.int .i64 f0,.int .i64 f1,.int .i64 f2,.int .i64 f3,.int .i64 f4]:=rfl
structure bZ where
 Order:Int
 From:Int
 To:Int
 deriving Inhabited
def bZ.cells (x:bZ):List D:=[.int .i64 x.Order,.int .i64 x.From,.int .i64 x.To]
theorem bZ.sized (xs:List bZ):sized 3 (cM bZ.cells xs) = true:=fG _ _ (fun x=>by rfl) xs
theorem bZ.len (x:bZ):x.cells.length = 3:=rfl
theorem bZ.size {β:Type} (x:bZ) (y:Option β):kY x.cells 3 y = y:=rfl
theorem bZ.eq1 {β:Type} (x:bZ) (ks:List Nat) (ys:List V) (k:Bool→Option β):dR ks (aC x.cells) ys k = dR ks [.d (.int .i64 x.Order),.d (.int .i64 x.From),.d (.int .i64 x.To)] ys k:=rfl
theorem bZ.eq2 {β:Type} (x:bZ) (ks:List Nat) (ys:List V) (k:Bool→Option β):dR ks ys (aC x.cells) k = dR ks ys [.d (.int .i64 x.Order),.d (.int .i64 x.From),.d (.int .i64 x.To)] k:=rfl
theorem bZ.lens {β:Type} (x:bZ) (y:Option β):o8 (aC x.cells) 3 y = y:=rfl
theorem bZ.vsets {β:Type} (x:bZ) (z:List V) (o:Nat) (k:List V→Option β):dH z o (aC x.cells) k = dH z o [.d (.int .i64 x.Order),.d (.int .i64 x.From),.d (.int .i64 x.To)] k:=rfl
theorem bZ.st_d {β:Type} (x:bZ) (y:D) (sz off id:Nat) (kw:V→List (Nat × Option aY)→Option β):aO sz off id (.d y) (some (.box (aC x.cells))) kw = aO sz off id (.d y) (some (.box [.d (.int .i64 x.Order),.d (.int .i64 x.From),.d (.int .i64 x.To)])) kw:=rfl
theorem bZ.st_nil {β:Type} (x:bZ)  (sz off id:Nat) (kw:V→List (Nat × Option aY)→Option β):aO sz off id .nil (some (.box (aC x.cells))) kw = aO sz off id .nil (some (.box [.d (.int .i64 x.Order),.d (.int .i64 x.From),.d (.int .i64 x.To)])) kw:=rfl
theorem bZ.st_own {β:Type} (x:bZ) (i v:Nat) (sz off id:Nat) (kw:V→List (Nat × Option aY)→Option β):aO sz off id (.own i v) (some (.box (aC x.cells))) kw = aO sz off id (.own i v) (some (.box [.d (.int .i64 x.Order),.d (.int .i64 x.From),.d (.int .i64 x.To)])) kw:=rfl
theorem bZ.st_agg {β:Type} (x:bZ) (y:List V) (sz off id:Nat) (kw:V→List (Nat × Option aY)→Option β):aO sz off id (.agg y) (some (.box (aC x.cells))) kw = aO sz off id (.agg y) (some (.box [.d (.int .i64 x.Order),.d (.int .i64 x.From),.d (.int .i64 x.To)])) kw:=rfl
theorem bZ.st_ptr {β:Type} (x:bZ) (i v:Nat) (sz off id:Nat) (kw:V→List (Nat × Option aY)→Option β):aO sz off id (.ptr i v) (some (.box (aC x.cells))) kw = aO sz off id (.ptr i v) (some (.box [.d (.int .i64 x.Order),.d (.int .i64 x.From),.d (.int .i64 x.To)])) kw:=rfl
theorem bZ.part {β:Type} (x:bZ) (off id:Nat) (b:Option aY) (kw:V→List (Nat × Option aY)→Option β):aO 3 (off + 1) id (cO x.cells) b kw = aO 3 (off + 1) id (.agg [.d (.int .i64 x.Order),.d (.int .i64 x.From),.d (.int .i64 x.To)]) b kw:=rfl
theorem bZ.put {β:Type} (x:bZ) (id:Nat) (cs:List V) (hc:cs.length = 3) (kw:V→List (Nat × Option aY)→Option β):aO 3 0 id (cO x.cells) (some (.box cs)) kw = kw .any [(id,some (.box (aC x.cells)))]:=cW 3 id _ rfl cs hc
theorem bZ.rset {β:Type} (x:bZ) (off:Nat) (d:D) (ds:List D) (n:Nat) (k:List D→Option β):bT x.cells off (d :: ds) n k = bT [.int .i64 x.Order,.int .i64 x.From,.int .i64 x.To] off (d :: ds) n k:=rfl
theorem bZ.rfull {β:Type} (x y:bZ) (k:List D→Option β):bT x.cells 0 y.cells 3 k = k y.cells:=by unfold bT; exact (if_pos ⟨rfl,Nat.le_refl _⟩).trans rfl
theorem bZ.get0 {β:Type} (x:bZ) (k:D→Option β):cC x.cells 0 k = k (.int .i64 x.Order):=rfl
theorem bZ.get1 {β:Type} (x:bZ) (k:D→Option β):cC x.cells 1 k = k (.int .i64 x.From):=rfl
theorem bZ.get2 {β:Type} (x:bZ) (k:D→Option β):cC x.cells 2 k = k (.int .i64 x.To):=rfl
theorem bZ.sub0_3 {β:Type} (x:bZ) (k:List D→Option β):m0 x.cells 0 3 k = k x.cells:=rfl
theorem bZ.cells_mk (f0:Int) (f1:Int) (f2:Int):bZ.cells (bZ.mk f0 f1 f2) = [.int .i64 f0,.int .i64 f1,.int .i64 f2]:=rfl
structure aA where
 Currencies:List ByteArray
 Cities:List bL
 Groups:List bO
 Firms:List bU
 Orders:List bD
 Usances:List bA
 Rates:List bX
 Halts:List bZ
 deriving Inhabited
def aA.cells (x:aA):List D:=[.sl (cM cS x.Currencies),.sl (cM bL.cells x.Cities),.sl (cM bO.cells x.Groups),.sl (cM bU.cells x.Firms),.sl (cM bD.cells x.Orders),.sl (cM bA.cells x.Usances),.sl (cM bX.cells x.Rates),.sl (cM bZ.cells x.Halts)]
theorem aA.sized (xs:List aA):sized 8 (cM aA.cells xs) = true:=fG _ _ (fun x=>by rfl) xs
theorem aA.len (x:aA):x.cells.length = 8:=rfl
theorem aA.size {β:Type} (x:aA) (y:Option β):kY x.cells 8 y = y:=rfl
theorem aA.eq1 {β:Type} (x:aA) (ks:List Nat) (ys:List V) (k:Bool→Option β):dR ks (aC x.cells) ys k = dR ks [.d (.sl (cM cS x.Currencies)),.d (.sl (cM bL.cells x.Cities)),.d (.sl (cM bO.cells x.Groups)),.d (.sl (cM bU.cells x.Firms)),.d (.sl (cM bD.cells x.Orders)),.d (.sl (cM bA.cells x.Usances)),.d (.sl (cM bX.cells x.Rates)),.d (.sl (cM bZ.cells x.Halts))] ys k:=rfl
theorem aA.eq2 {β:Type} (x:aA) (ks:List Nat) (ys:List V) (k:Bool→Option β):dR ks ys (aC x.cells) k = dR ks ys [.d (.sl (cM cS x.Currencies)),.d (.sl (cM bL.cells x.Cities)),.d (.sl (cM bO.cells x.Groups)),.d (.sl (cM bU.cells x.Firms)),.d (.sl (cM bD.cells x.Orders)),.d (.sl (cM bA.cells x.Usances)),.d (.sl (cM bX.cells x.Rates)),.d (.sl (cM bZ.cells x.Halts))] k:=rfl
theorem aA.lens {β:Type} (x:aA) (y:Option β):o8 (aC x.cells) 8 y = y:=rfl
theorem aA.vsets {β:Type} (x:aA) (z:List V) (o:Nat) (k:List V→Option β):dH z o (aC x.cells) k = dH z o [.d (.sl (cM cS x.Currencies)),.d (.sl (cM bL.cells x.Cities)),.d (.sl (cM bO.cells x.Groups)),.d (.sl (cM bU.cells x.Firms)),.d (.sl (cM bD.cells x.Orders)),.d (.sl (cM bA.cells x.Usances)),.d (.sl (cM bX.cells x.Rates)),.d (.sl (cM bZ.cells x.Halts))] k:=rfl
theorem aA.st_d {β:Type} (x:aA) (y:D) (sz off id:Nat) (kw:V→List (Nat × Option aY)→Option β):aO sz off id (.d y) (some (.box (aC x.cells))) kw = aO sz off id (.d y) (some (.box [.d (.sl (cM cS x.Currencies)),.d (.sl (cM bL.cells x.Cities)),.d (.sl (cM bO.cells x.Groups)),.d (.sl (cM bU.cells x.Firms)),.d (.sl (cM bD.cells x.Orders)),.d (.sl (cM bA.cells x.Usances)),.d (.sl (cM bX.cells x.Rates)),.d (.sl (cM bZ.cells x.Halts))])) kw:=rfl
theorem aA.st_nil {β:Type} (x:aA)  (sz off id:Nat) (kw:V→List (Nat × Option aY)→Option β):aO sz off id .nil (some (.box (aC x.cells))) kw = aO sz off id .nil (some (.box [.d (.sl (cM cS x.Currencies)),.d (.sl (cM bL.cells x.Cities)),.d (.sl (cM bO.cells x.Groups)),.d (.sl (cM bU.cells x.Firms)),.d (.sl (cM bD.cells x.Orders)),.d (.sl (cM bA.cells x.Usances)),.d (.sl (cM bX.cells x.Rates)),.d (.sl (cM bZ.cells x.Halts))])) kw:=rfl
theorem aA.st_own {β:Type} (x:aA) (i v:Nat) (sz off id:Nat) (kw:V→List (Nat × Option aY)→Option β):aO sz off id (.own i v) (some (.box (aC x.cells))) kw = aO sz off id (.own i v) (some (.box [.d (.sl (cM cS x.Currencies)),.d (.sl (cM bL.cells x.Cities)),.d (.sl (cM bO.cells x.Groups)),.d (.sl (cM bU.cells x.Firms)),.d (.sl (cM bD.cells x.Orders)),.d (.sl (cM bA.cells x.Usances)),.d (.sl (cM bX.cells x.Rates)),.d (.sl (cM bZ.cells x.Halts))])) kw:=rfl
theorem aA.st_agg {β:Type} (x:aA) (y:List V) (sz off id:Nat) (kw:V→List (Nat × Option aY)→Option β):aO sz off id (.agg y) (some (.box (aC x.cells))) kw = aO sz off id (.agg y) (some (.box [.d (.sl (cM cS x.Currencies)),.d (.sl (cM bL.cells x.Cities)),.d (.sl (cM bO.cells x.Groups)),.d (.sl (cM bU.cells x.Firms)),.d (.sl (cM bD.cells x.Orders)),.d (.sl (cM bA.cells x.Usances)),.d (.sl (cM bX.cells x.Rates)),.d (.sl (cM bZ.cells x.Halts))])) kw:=rfl
theorem aA.st_ptr {β:Type} (x:aA) (i v:Nat) (sz off id:Nat) (kw:V→List (Nat × Option aY)→Option β):aO sz off id (.ptr i v) (some (.box (aC x.cells))) kw = aO sz off id (.ptr i v) (some (.box [.d (.sl (cM cS x.Currencies)),.d (.sl (cM bL.cells x.Cities)),.d (.sl (cM bO.cells x.Groups)),.d (.sl (cM bU.cells x.Firms)),.d (.sl (cM bD.cells x.Orders)),.d (.sl (cM bA.cells x.Usances)),.d (.sl (cM bX.cells x.Rates)),.d (.sl (cM bZ.cells x.Halts))])) kw:=rfl
theorem aA.part {β:Type} (x:aA) (off id:Nat) (b:Option aY) (kw:V→List (Nat × Option aY)→Option β):aO 8 (off + 1) id (cO x.cells) b kw = aO 8 (off + 1) id (.agg [.d (.sl (cM cS x.Currencies)),.d (.sl (cM bL.cells x.Cities)),.d (.sl (cM bO.cells x.Groups)),.d (.sl (cM bU.cells x.Firms)),.d (.sl (cM bD.cells x.Orders)),.d (.sl (cM bA.cells x.Usances)),.d (.sl (cM bX.cells x.Rates)),.d (.sl (cM bZ.cells x.Halts))]) b kw:=rfl
theorem aA.put {β:Type} (x:aA) (id:Nat) (cs:List V) (hc:cs.length = 8) (kw:V→List (Nat × Option aY)→Option β):aO 8 0 id (cO x.cells) (some (.box cs)) kw = kw .any [(id,some (.box (aC x.cells)))]:=cW 8 id _ rfl cs hc
theorem aA.rset {β:Type} (x:aA) (off:Nat) (d:D) (ds:List D) (n:Nat) (k:List D→Option β):bT x.cells off (d :: ds) n k = bT [.sl (cM cS x.Currencies),.sl (cM bL.cells x.Cities),.sl (cM bO.cells x.Groups),.sl (cM bU.cells x.Firms),.sl (cM bD.cells x.Orders),.sl (cM bA.cells x.Usances),.sl (cM bX.cells x.Rates),.sl (cM bZ.cells x.Halts)] off (d :: ds) n k:=rfl
theorem aA.rfull {β:Type} (x y:aA) (k:List D→Option β):bT x.cells 0 y.cells 8 k = k y.cells:=by unfold bT; exact (if_pos ⟨rfl,Nat.le_refl _⟩).trans rfl
theorem aA.get0 {β:Type} (x:aA) (k:D→Option β):cC x.cells 0 k = k (.sl (cM cS x.Currencies)):=rfl
theorem aA.get1 {β:Type} (x:aA) (k:D→Option β):cC x.cells 1 k = k (.sl (cM bL.cells x.Cities)):=rfl
theorem aA.get2 {β:Type} (x:aA) (k:D→Option β):cC x.cells 2 k = k (.sl (cM bO.cells x.Groups)):=rfl
theorem aA.get3 {β:Type} (x:aA) (k:D→Option β):cC x.cells 3 k = k (.sl (cM bU.cells x.Firms)):=rfl
theorem aA.get4 {β:Type} (x:aA) (k:D→Option β):cC x.cells 4 k = k (.sl (cM bD.cells x.Orders)):=rfl
theorem aA.get5 {β:Type} (x:aA) (k:D→Option β):cC x.cells 5 k = k (.sl (cM bA.cells x.Usances)):=rfl
theorem aA.get6 {β:Type} (x:aA) (k:D→Option β):cC x.cells 6 k = k (.sl (cM bX.cells x.Rates)):=rfl
theorem aA.get7 {β:Type} (x:aA) (k:D→Option β):cC x.cells 7 k = k (.sl (cM bZ.cells x.Halts)):=rfl
theorem aA.sub0_8 {β:Type} (x:aA) (k:List D→Option β):m0 x.cells 0 8 k = k x.cells:=rfl
theorem aA.cells_mk (f0:List ByteArray) (f1:List bL) (f2:List bO) (f3:List bU) (f4:List bD) (f5:List bA) (f6:List bX) (f7:List bZ):aA.cells (aA.mk f0 f1 f2 f3 f4 f5 f6 f7) = [.sl (cM cS f0),.sl (cM bL.cells f1),.sl (cM bO.cells f2),.sl (cM bU.cells f3),.sl (cM bD.cells f4),.sl (cM bA.cells f5),.sl (cM bX.cells f6),.sl (cM bZ.cells f7)]:=rfl
structure bR where
 Kind:Int
 N:Int
 Unit:Int
 deriving Inhabited
def bR.cells (x:bR):List D:=[.int .i64 x.Kind,.int .i64 x.N,.int .i64 x.Unit]
theorem bR.sized (xs:List bR):sized 3 (cM bR.cells xs) = true:=fG _ _ (fun x=>by rfl) xs
theorem bR.len (x:bR):x.cells.length = 3:=rfl
theorem bR.size {β:Type} (x:bR) (y:Option β):kY x.cells 3 y = y:=rfl
theorem bR.eq1 {β:Type} (x:bR) (ks:List Nat) (ys:List V) (k:Bool→Option β):dR ks (aC x.cells) ys k = dR ks [.d (.int .i64 x.Kind),.d (.int .i64 x.N),.d (.int .i64 x.Unit)] ys k:=rfl
theorem bR.eq2 {β:Type} (x:bR) (ks:List Nat) (ys:List V) (k:Bool→Option β):dR ks ys (aC x.cells) k = dR ks ys [.d (.int .i64 x.Kind),.d (.int .i64 x.N),.d (.int .i64 x.Unit)] k:=rfl
theorem bR.lens {β:Type} (x:bR) (y:Option β):o8 (aC x.cells) 3 y = y:=rfl
theorem bR.vsets {β:Type} (x:bR) (z:List V) (o:Nat) (k:List V→Option β):dH z o (aC x.cells) k = dH z o [.d (.int .i64 x.Kind),.d (.int .i64 x.N),.d (.int .i64 x.Unit)] k:=rfl
theorem bR.st_d {β:Type} (x:bR) (y:D) (sz off id:Nat) (kw:V→List (Nat × Option aY)→Option β):aO sz off id (.d y) (some (.box (aC x.cells))) kw = aO sz off id (.d y) (some (.box [.d (.int .i64 x.Kind),.d (.int .i64 x.N),.d (.int .i64 x.Unit)])) kw:=rfl
theorem bR.st_nil {β:Type} (x:bR)  (sz off id:Nat) (kw:V→List (Nat × Option aY)→Option β):aO sz off id .nil (some (.box (aC x.cells))) kw = aO sz off id .nil (some (.box [.d (.int .i64 x.Kind),.d (.int .i64 x.N),.d (.int .i64 x.Unit)])) kw:=rfl
theorem bR.st_own {β:Type} (x:bR) (i v:Nat) (sz off id:Nat) (kw:V→List (Nat × Option aY)→Option β):aO sz off id (.own i v) (some (.box (aC x.cells))) kw = aO sz off id (.own i v) (some (.box [.d (.int .i64 x.Kind),.d (.int .i64 x.N),.d (.int .i64 x.Unit)])) kw:=rfl
theorem bR.st_agg {β:Type} (x:bR) (y:List V) (sz off id:Nat) (kw:V→List (Nat × Option aY)→Option β):aO sz off id (.agg y) (some (.box (aC x.cells))) kw = aO sz off id (.agg y) (some (.box [.d (.int .i64 x.Kind),.d (.int .i64 x.N),.d (.int .i64 x.Unit)])) kw:=rfl
theorem bR.st_ptr {β:Type} (x:bR) (i v:Nat) (sz off id:Nat) (kw:V→List (Nat × Option aY)→Option β):aO sz off id (.ptr i v) (some (.box (aC x.cells))) kw = aO sz off id (.ptr i v) (some (.box [.d (.int .i64 x.Kind),.d (.int .i64 x.N),.d (.int .i64 x.Unit)])) kw:=rfl
theorem bR.part {β:Type} (x:bR) (off id:Nat) (b:Option aY) (kw:V→List (Nat × Option aY)→Option β):aO 3 (off + 1) id (cO x.cells) b kw = aO 3 (off + 1) id (.agg [.d (.int .i64 x.Kind),.d (.int .i64 x.N),.d (.int .i64 x.Unit)]) b kw:=rfl
theorem bR.put {β:Type} (x:bR) (id:Nat) (cs:List V) (hc:cs.length = 3) (kw:V→List (Nat × Option aY)→Option β):aO 3 0 id (cO x.cells) (some (.box cs)) kw = kw .any [(id,some (.box (aC x.cells)))]:=cW 3 id _ rfl cs hc
theorem bR.rset {β:Type} (x:bR) (off:Nat) (d:D) (ds:List D) (n:Nat) (k:List D→Option β):bT x.cells off (d :: ds) n k = bT [.int .i64 x.Kind,.int .i64 x.N,.int .i64 x.Unit] off (d :: ds) n k:=rfl
theorem bR.rfull {β:Type} (x y:bR) (k:List D→Option β):bT x.cells 0 y.cells 3 k = k y.cells:=by unfold bT; exact (if_pos ⟨rfl,Nat.le_refl _⟩).trans rfl
theorem bR.get0 {β:Type} (x:bR) (k:D→Option β):cC x.cells 0 k = k (.int .i64 x.Kind):=rfl
theorem bR.get1 {β:Type} (x:bR) (k:D→Option β):cC x.cells 1 k = k (.int .i64 x.N):=rfl
theorem bR.get2 {β:Type} (x:bR) (k:D→Option β):cC x.cells 2 k = k (.int .i64 x.Unit):=rfl
theorem bR.sub0_3 {β:Type} (x:bR) (k:List D→Option β):m0 x.cells 0 3 k = k x.cells:=rfl
theorem bR.cells_mk (f0:Int) (f1:Int) (f2:Int):bR.cells (bR.mk f0 f1 f2) = [.int .i64 f0,.int .i64 f1,.int .i64 f2]:=rfl
structure bF where
 Drawer:Int
 Drawee:Int
 Payee:Int
 Sum:Int
 Currency:Int
 Tenor:bR
 Day:Int
 City:Int
 Pay:Int
 Need:Int
 Rate:Int
 Flags:Int
 Parts:Int
 deriving Inhabited
def bF.cells (x:bF):List D:=[.int .i64 x.Drawer,.int .i64 x.Drawee,.int .i64 x.Payee,.int .i64 x.Sum,.int .i64 x.Currency,.int .i64 x.Tenor.Kind,.int .i64 x.Tenor.N,.int .i64 x.Tenor.Unit,.int .i64 x.Day,.int .i64 x.City,.int .i64 x.Pay,.int .i64 x.Need,.int .i64 x.Rate,.int .i64 x.Flags,.int .i64 x.Parts]
theorem bF.sized (xs:List bF):sized 15 (cM bF.cells xs) = true:=fG _ _ (fun x=>by rfl) xs
theorem bF.len (x:bF):x.cells.length = 15:=rfl
theorem bF.size {β:Type} (x:bF) (y:Option β):kY x.cells 15 y = y:=rfl
theorem bF.eq1 {β:Type} (x:bF) (ks:List Nat) (ys:List V) (k:Bool→Option β):dR ks (aC x.cells) ys k = dR ks [.d (.int .i64 x.Drawer),.d (.int .i64 x.Drawee),.d (.int .i64 x.Payee),.d (.int .i64 x.Sum),.d (.int .i64 x.Currency),.d (.int .i64 x.Tenor.Kind),.d (.int .i64 x.Tenor.N),.d (.int .i64 x.Tenor.Unit),.d (.int .i64 x.Day),.d (.int .i64 x.City),.d (.int .i64 x.Pay),.d (.int .i64 x.Need),.d (.int .i64 x.Rate),.d (.int .i64 x.Flags),.d (.int .i64 x.Parts)] ys k:=rfl
theorem bF.eq2 {β:Type} (x:bF) (ks:List Nat) (ys:List V) (k:Bool→Option β):dR ks ys (aC x.cells) k = dR ks ys [.d (.int .i64 x.Drawer),.d (.int .i64 x.Drawee),.d (.int .i64 x.Payee),.d (.int .i64 x.Sum),.d (.int .i64 x.Currency),.d (.int .i64 x.Tenor.Kind),.d (.int .i64 x.Tenor.N),.d (.int .i64 x.Tenor.Unit),.d (.int .i64 x.Day),.d (.int .i64 x.City),.d (.int .i64 x.Pay),.d (.int .i64 x.Need),.d (.int .i64 x.Rate),.d (.int .i64 x.Flags),.d (.int .i64 x.Parts)] k:=rfl
theorem bF.lens {β:Type} (x:bF) (y:Option β):o8 (aC x.cells) 15 y = y:=rfl
theorem bF.vsets {β:Type} (x:bF) (z:List V) (o:Nat) (k:List V→Option β):dH z o (aC x.cells) k = dH z o [.d (.int .i64 x.Drawer),.d (.int .i64 x.Drawee),.d (.int .i64 x.Payee),.d (.int .i64 x.Sum),.d (.int .i64 x.Currency),.d (.int .i64 x.Tenor.Kind),.d (.int .i64 x.Tenor.N),.d (.int .i64 x.Tenor.Unit),.d (.int .i64 x.Day),.d (.int .i64 x.City),.d (.int .i64 x.Pay),.d (.int .i64 x.Need),.d (.int .i64 x.Rate),.d (.int .i64 x.Flags),.d (.int .i64 x.Parts)] k:=rfl
theorem bF.st_d {β:Type} (x:bF) (y:D) (sz off id:Nat) (kw:V→List (Nat × Option aY)→Option β):aO sz off id (.d y) (some (.box (aC x.cells))) kw = aO sz off id (.d y) (some (.box [.d (.int .i64 x.Drawer),.d (.int .i64 x.Drawee),.d (.int .i64 x.Payee),.d (.int .i64 x.Sum),.d (.int .i64 x.Currency),.d (.int .i64 x.Tenor.Kind),.d (.int .i64 x.Tenor.N),.d (.int .i64 x.Tenor.Unit),.d (.int .i64 x.Day),.d (.int .i64 x.City),.d (.int .i64 x.Pay),.d (.int .i64 x.Need),.d (.int .i64 x.Rate),.d (.int .i64 x.Flags),.d (.int .i64 x.Parts)])) kw:=rfl
theorem bF.st_nil {β:Type} (x:bF)  (sz off id:Nat) (kw:V→List (Nat × Option aY)→Option β):aO sz off id .nil (some (.box (aC x.cells))) kw = aO sz off id .nil (some (.box [.d (.int .i64 x.Drawer),.d (.int .i64 x.Drawee),.d (.int .i64 x.Payee),.d (.int .i64 x.Sum),.d (.int .i64 x.Currency),.d (.int .i64 x.Tenor.Kind),.d (.int .i64 x.Tenor.N),.d (.int .i64 x.Tenor.Unit),.d (.int .i64 x.Day),.d (.int .i64 x.City),.d (.int .i64 x.Pay),.d (.int .i64 x.Need),.d (.int .i64 x.Rate),.d (.int .i64 x.Flags),.d (.int .i64 x.Parts)])) kw:=rfl
theorem bF.st_own {β:Type} (x:bF) (i v:Nat) (sz off id:Nat) (kw:V→List (Nat × Option aY)→Option β):aO sz off id (.own i v) (some (.box (aC x.cells))) kw = aO sz off id (.own i v) (some (.box [.d (.int .i64 x.Drawer),.d (.int .i64 x.Drawee),.d (.int .i64 x.Payee),.d (.int .i64 x.Sum),.d (.int .i64 x.Currency),.d (.int .i64 x.Tenor.Kind),.d (.int .i64 x.Tenor.N),.d (.int .i64 x.Tenor.Unit),.d (.int .i64 x.Day),.d (.int .i64 x.City),.d (.int .i64 x.Pay),.d (.int .i64 x.Need),.d (.int .i64 x.Rate),.d (.int .i64 x.Flags),.d (.int .i64 x.Parts)])) kw:=rfl
theorem bF.st_agg {β:Type} (x:bF) (y:List V) (sz off id:Nat) (kw:V→List (Nat × Option aY)→Option β):aO sz off id (.agg y) (some (.box (aC x.cells))) kw = aO sz off id (.agg y) (some (.box [.d (.int .i64 x.Drawer),.d (.int .i64 x.Drawee),.d (.int .i64 x.Payee),.d (.int .i64 x.Sum),.d (.int .i64 x.Currency),.d (.int .i64 x.Tenor.Kind),.d (.int .i64 x.Tenor.N),.d (.int .i64 x.Tenor.Unit),.d (.int .i64 x.Day),.d (.int .i64 x.City),.d (.int .i64 x.Pay),.d (.int .i64 x.Need),.d (.int .i64 x.Rate),.d (.int .i64 x.Flags),.d (.int .i64 x.Parts)])) kw:=rfl
theorem bF.st_ptr {β:Type} (x:bF) (i v:Nat) (sz off id:Nat) (kw:V→List (Nat × Option aY)→Option β):aO sz off id (.ptr i v) (some (.box (aC x.cells))) kw = aO sz off id (.ptr i v) (some (.box [.d (.int .i64 x.Drawer),.d (.int .i64 x.Drawee),.d (.int .i64 x.Payee),.d (.int .i64 x.Sum),.d (.int .i64 x.Currency),.d (.int .i64 x.Tenor.Kind),.d (.int .i64 x.Tenor.N),.d (.int .i64 x.Tenor.Unit),.d (.int .i64 x.Day),.d (.int .i64 x.City),.d (.int .i64 x.Pay),.d (.int .i64 x.Need),.d (.int .i64 x.Rate),.d (.int .i64 x.Flags),.d (.int .i64 x.Parts)])) kw:=rfl
theorem bF.part {β:Type} (x:bF) (off id:Nat) (b:Option aY) (kw:V→List (Nat × Option aY)→Option β):aO 15 (off + 1) id (cO x.cells) b kw = aO 15 (off + 1) id (.agg [.d (.int .i64 x.Drawer),.d (.int .i64 x.Drawee),.d (.int .i64 x.Payee),.d (.int .i64 x.Sum),.d (.int .i64 x.Currency),.d (.int .i64 x.Tenor.Kind),.d (.int .i64 x.Tenor.N),.d (.int .i64 x.Tenor.Unit),.d (.int .i64 x.Day),.d (.int .i64 x.City),.d (.int .i64 x.Pay),.d (.int .i64 x.Need),.d (.int .i64 x.Rate),.d (.int .i64 x.Flags),.d (.int .i64 x.Parts)]) b kw:=rfl
theorem bF.put {β:Type} (x:bF) (id:Nat) (cs:List V) (hc:cs.length = 15) (kw:V→List (Nat × Option aY)→Option β):aO 15 0 id (cO x.cells) (some (.box cs)) kw = kw .any [(id,some (.box (aC x.cells)))]:=cW 15 id _ rfl cs hc
theorem bF.rset {β:Type} (x:bF) (off:Nat) (d:D) (ds:List D) (n:Nat) (k:List D→Option β):bT x.cells off (d :: ds) n k = bT [.int .i64 x.Drawer,.int .i64 x.Drawee,.int .i64 x.Payee,.int .i64 x.Sum,.int .i64 x.Currency,.int .i64 x.Tenor.Kind,.int .i64 x.Tenor.N,.int .i64 x.Tenor.Unit,.int .i64 x.Day,.int .i64 x.City,.int .i64 x.Pay,.int .i64 x.Need,.int .i64 x.Rate,.int .i64 x.Flags,.int .i64 x.Parts] off (d :: ds) n k:=rfl
theorem bF.rfull {β:Type} (x y:bF) (k:List D→Option β):bT x.cells 0 y.cells 15 k = k y.cells:=by unfold bT; exact (if_pos ⟨rfl,Nat.le_refl _⟩).trans rfl
theorem bF.get0 {β:Type} (x:bF) (k:D→Option β):cC x.cells 0 k = k (.int .i64 x.Drawer):=rfl
theorem bF.get1 {β:Type} (x:bF) (k:D→Option β):cC x.cells 1 k = k (.int .i64 x.Drawee):=rfl
theorem bF.get2 {β:Type} (x:bF) (k:D→Option β):cC x.cells 2 k = k (.int .i64 x.Payee):=rfl
theorem bF.get3 {β:Type} (x:bF) (k:D→Option β):cC x.cells 3 k = k (.int .i64 x.Sum):=rfl
theorem bF.get4 {β:Type} (x:bF) (k:D→Option β):cC x.cells 4 k = k (.int .i64 x.Currency):=rfl
theorem bF.get5 {β:Type} (x:bF) (k:D→Option β):cC x.cells 5 k = k (.int .i64 x.Tenor.Kind):=rfl
theorem bF.get6 {β:Type} (x:bF) (k:D→Option β):cC x.cells 6 k = k (.int .i64 x.Tenor.N):=rfl
theorem bF.get7 {β:Type} (x:bF) (k:D→Option β):cC x.cells 7 k = k (.int .i64 x.Tenor.Unit):=rfl
theorem bF.get8 {β:Type} (x:bF) (k:D→Option β):cC x.cells 8 k = k (.int .i64 x.Day):=rfl
theorem bF.get9 {β:Type} (x:bF) (k:D→Option β):cC x.cells 9 k = k (.int .i64 x.City):=rfl
theorem bF.get10 {β:Type} (x:bF) (k:D→Option β):cC x.cells 10 k = k (.int .i64 x.Pay):=rfl
theorem bF.get11 {β:Type} (x:bF) (k:D→Option β):cC x.cells 11 k = k (.int .i64 x.Need):=rfl
theorem bF.get12 {β:Type} (x:bF) (k:D→Option β):cC x.cells 12 k = k (.int .i64 x.Rate):=rfl
theorem bF.get13 {β:Type} (x:bF) (k:D→Option β):cC x.cells 13 k = k (.int .i64 x.Flags):=rfl
theorem bF.get14 {β:Type} (x:bF) (k:D→Option β):cC x.cells 14 k = k (.int .i64 x.Parts):=rfl
theorem bF.sub0_15 {β:Type} (x:bF) (k:List D→Option β):m0 x.cells 0 15 k = k x.cells:=rfl
theorem bF.sub5_3 {β:Type} (x:bF) (k:List D→Option β):m0 x.cells 5 3 k = k (bR.cells x.Tenor):=rfl
theorem bF.cells_mk (f0:Int) (f1:Int) (f2:Int) (f3:Int) (f4:Int) (f5:bR) (f6:Int) (f7:Int) (f8:Int) (f9:Int) (f10:Int) (f11:Int) (f12:Int):bF.cells (bF.mk f0 f1 f2 f3 f4 f5 f6 f7 f8 f9 f10 f11 f12) = [.int .i64 f0,.int .i64 f1,.int .i64 f2,.int .i64 f3,.int .i64 f4,.int .i64 f5.Kind,.int .i64 f5.N,.int .i64 f5.Unit,.int .i64 f6,.int .i64 f7,.int .i64 f8,.int .i64 f9,.int .i64 f10,.int .i64 f11,.int .i64 f12]:=rfl
structure aX where
 Kind:Int
 Part:Int
 Who:Int
 For:Int
 To:Int
 Sum:Int
 Day:Int
 City:Int
 Flags:Int
 deriving Inhabited
def aX.cells (x:aX):List D:=[.int .i64 x.Kind,.int .i64 x.Part,.int .i64 x.Who,.int .i64 x.For,.int .i64 x.To,.int .i64 x.Sum,.int .i64 x.Day,.int .i64 x.City,.int .i64 x.Flags]
theorem aX.sized (xs:List aX):sized 9 (cM aX.cells xs) = true:=fG _ _ (fun x=>by rfl) xs
theorem aX.len (x:aX):x.cells.length = 9:=rfl
theorem aX.size {β:Type} (x:aX) (y:Option β):kY x.cells 9 y = y:=rfl
theorem aX.eq1 {β:Type} (x:aX) (ks:List Nat) (ys:List V) (k:Bool→Option β):dR ks (aC x.cells) ys k = dR ks [.d (.int .i64 x.Kind),.d (.int .i64 x.Part),.d (.int .i64 x.Who),.d (.int .i64 x.For),.d (.int .i64 x.To),.d (.int .i64 x.Sum),.d (.int .i64 x.Day),.d (.int .i64 x.City),.d (.int .i64 x.Flags)] ys k:=rfl
theorem aX.eq2 {β:Type} (x:aX) (ks:List Nat) (ys:List V) (k:Bool→Option β):dR ks ys (aC x.cells) k = dR ks ys [.d (.int .i64 x.Kind),.d (.int .i64 x.Part),.d (.int .i64 x.Who),.d (.int .i64 x.For),.d (.int .i64 x.To),.d (.int .i64 x.Sum),.d (.int .i64 x.Day),.d (.int .i64 x.City),.d (.int .i64 x.Flags)] k:=rfl
theorem aX.lens {β:Type} (x:aX) (y:Option β):o8 (aC x.cells) 9 y = y:=rfl
theorem aX.vsets {β:Type} (x:aX) (z:List V) (o:Nat) (k:List V→Option β):dH z o (aC x.cells) k = dH z o [.d (.int .i64 x.Kind),.d (.int .i64 x.Part),.d (.int .i64 x.Who),.d (.int .i64 x.For),.d (.int .i64 x.To),.d (.int .i64 x.Sum),.d (.int .i64 x.Day),.d (.int .i64 x.City),.d (.int .i64 x.Flags)] k:=rfl
theorem aX.st_d {β:Type} (x:aX) (y:D) (sz off id:Nat) (kw:V→List (Nat × Option aY)→Option β):aO sz off id (.d y) (some (.box (aC x.cells))) kw = aO sz off id (.d y) (some (.box [.d (.int .i64 x.Kind),.d (.int .i64 x.Part),.d (.int .i64 x.Who),.d (.int .i64 x.For),.d (.int .i64 x.To),.d (.int .i64 x.Sum),.d (.int .i64 x.Day),.d (.int .i64 x.City),.d (.int .i64 x.Flags)])) kw:=rfl
theorem aX.st_nil {β:Type} (x:aX)  (sz off id:Nat) (kw:V→List (Nat × Option aY)→Option β):aO sz off id .nil (some (.box (aC x.cells))) kw = aO sz off id .nil (some (.box [.d (.int .i64 x.Kind),.d (.int .i64 x.Part),.d (.int .i64 x.Who),.d (.int .i64 x.For),.d (.int .i64 x.To),.d (.int .i64 x.Sum),.d (.int .i64 x.Day),.d (.int .i64 x.City),.d (.int .i64 x.Flags)])) kw:=rfl
theorem aX.st_own {β:Type} (x:aX) (i v:Nat) (sz off id:Nat) (kw:V→List (Nat × Option aY)→Option β):aO sz off id (.own i v) (some (.box (aC x.cells))) kw = aO sz off id (.own i v) (some (.box [.d (.int .i64 x.Kind),.d (.int .i64 x.Part),.d (.int .i64 x.Who),.d (.int .i64 x.For),.d (.int .i64 x.To),.d (.int .i64 x.Sum),.d (.int .i64 x.Day),.d (.int .i64 x.City),.d (.int .i64 x.Flags)])) kw:=rfl
theorem aX.st_agg {β:Type} (x:aX) (y:List V) (sz off id:Nat) (kw:V→List (Nat × Option aY)→Option β):aO sz off id (.agg y) (some (.box (aC x.cells))) kw = aO sz off id (.agg y) (some (.box [.d (.int .i64 x.Kind),.d (.int .i64 x.Part),.d (.int .i64 x.Who),.d (.int .i64 x.For),.d (.int .i64 x.To),.d (.int .i64 x.Sum),.d (.int .i64 x.Day),.d (.int .i64 x.City),.d (.int .i64 x.Flags)])) kw:=rfl
theorem aX.st_ptr {β:Type} (x:aX) (i v:Nat) (sz off id:Nat) (kw:V→List (Nat × Option aY)→Option β):aO sz off id (.ptr i v) (some (.box (aC x.cells))) kw = aO sz off id (.ptr i v) (some (.box [.d (.int .i64 x.Kind),.d (.int .i64 x.Part),.d (.int .i64 x.Who),.d (.int .i64 x.For),.d (.int .i64 x.To),.d (.int .i64 x.Sum),.d (.int .i64 x.Day),.d (.int .i64 x.City),.d (.int .i64 x.Flags)])) kw:=rfl
theorem aX.part {β:Type} (x:aX) (off id:Nat) (b:Option aY) (kw:V→List (Nat × Option aY)→Option β):aO 9 (off + 1) id (cO x.cells) b kw = aO 9 (off + 1) id (.agg [.d (.int .i64 x.Kind),.d (.int .i64 x.Part),.d (.int .i64 x.Who),.d (.int .i64 x.For),.d (.int .i64 x.To),.d (.int .i64 x.Sum),.d (.int .i64 x.Day),.d (.int .i64 x.City),.d (.int .i64 x.Flags)]) b kw:=rfl
theorem aX.put {β:Type} (x:aX) (id:Nat) (cs:List V) (hc:cs.length = 9) (kw:V→List (Nat × Option aY)→Option β):aO 9 0 id (cO x.cells) (some (.box cs)) kw = kw .any [(id,some (.box (aC x.cells)))]:=cW 9 id _ rfl cs hc
theorem aX.rset {β:Type} (x:aX) (off:Nat) (d:D) (ds:List D) (n:Nat) (k:List D→Option β):bT x.cells off (d :: ds) n k = bT [.int .i64 x.Kind,.int .i64 x.Part,.int .i64 x.Who,.int .i64 x.For,.int .i64 x.To,.int .i64 x.Sum,.int .i64 x.Day,.int .i64 x.City,.int .i64 x.Flags] off (d :: ds) n k:=rfl
theorem aX.rfull {β:Type} (x y:aX) (k:List D→Option β):bT x.cells 0 y.cells 9 k = k y.cells:=by unfold bT; exact (if_pos ⟨rfl,Nat.le_refl _⟩).trans rfl
theorem aX.get0 {β:Type} (x:aX) (k:D→Option β):cC x.cells 0 k = k (.int .i64 x.Kind):=rfl
theorem aX.get1 {β:Type} (x:aX) (k:D→Option β):cC x.cells 1 k = k (.int .i64 x.Part):=rfl
theorem aX.get2 {β:Type} (x:aX) (k:D→Option β):cC x.cells 2 k = k (.int .i64 x.Who):=rfl
theorem aX.get3 {β:Type} (x:aX) (k:D→Option β):cC x.cells 3 k = k (.int .i64 x.For):=rfl
theorem aX.get4 {β:Type} (x:aX) (k:D→Option β):cC x.cells 4 k = k (.int .i64 x.To):=rfl
theorem aX.get5 {β:Type} (x:aX) (k:D→Option β):cC x.cells 5 k = k (.int .i64 x.Sum):=rfl
theorem aX.get6 {β:Type} (x:aX) (k:D→Option β):cC x.cells 6 k = k (.int .i64 x.Day):=rfl
theorem aX.get7 {β:Type} (x:aX) (k:D→Option β):cC x.cells 7 k = k (.int .i64 x.City):=rfl
theorem aX.get8 {β:Type} (x:aX) (k:D→Option β):cC x.cells 8 k = k (.int .i64 x.Flags):=rfl
theorem aX.sub0_9 {β:Type} (x:aX) (k:List D→Option β):m0 x.cells 0 9 k = k x.cells:=rfl
theorem aX.cells_mk (f0:Int) (f1:Int) (f2:Int) (f3:Int) (f4:Int) (f5:Int) (f6:Int) (f7:Int) (f8:Int):aX.cells (aX.mk f0 f1 f2 f3 f4 f5 f6 f7 f8) = [.int .i64 f0,.int .i64 f1,.int .i64 f2,.int .i64 f3,.int .i64 f4,.int .i64 f5,.int .i64 f6,.int .i64 f7,.int .i64 f8]:=rfl
structure bE where
 At:Int
 Sum:Int
 deriving Inhabited
def bE.cells (x:bE):List D:=[.int .i64 x.At,.int .i64 x.Sum]
theorem bE.sized (xs:List bE):sized 2 (cM bE.cells xs) = true:=fG _ _ (fun x=>by rfl) xs
theorem bE.len (x:bE):x.cells.length = 2:=rfl
theorem bE.size {β:Type} (x:bE) (y:Option β):kY x.cells 2 y = y:=rfl
theorem bE.eq1 {β:Type} (x:bE) (ks:List Nat) (ys:List V) (k:Bool→Option β):dR ks (aC x.cells) ys k = dR ks [.d (.int .i64 x.At),.d (.int .i64 x.Sum)] ys k:=rfl
theorem bE.eq2 {β:Type} (x:bE) (ks:List Nat) (ys:List V) (k:Bool→Option β):dR ks ys (aC x.cells) k = dR ks ys [.d (.int .i64 x.At),.d (.int .i64 x.Sum)] k:=rfl
theorem bE.lens {β:Type} (x:bE) (y:Option β):o8 (aC x.cells) 2 y = y:=rfl
theorem bE.vsets {β:Type} (x:bE) (z:List V) (o:Nat) (k:List V→Option β):dH z o (aC x.cells) k = dH z o [.d (.int .i64 x.At),.d (.int .i64 x.Sum)] k:=rfl
theorem bE.st_d {β:Type} (x:bE) (y:D) (sz off id:Nat) (kw:V→List (Nat × Option aY)→Option β):aO sz off id (.d y) (some (.box (aC x.cells))) kw = aO sz off id (.d y) (some (.box [.d (.int .i64 x.At),.d (.int .i64 x.Sum)])) kw:=rfl
theorem bE.st_nil {β:Type} (x:bE)  (sz off id:Nat) (kw:V→List (Nat × Option aY)→Option β):aO sz off id .nil (some (.box (aC x.cells))) kw = aO sz off id .nil (some (.box [.d (.int .i64 x.At),.d (.int .i64 x.Sum)])) kw:=rfl
theorem bE.st_own {β:Type} (x:bE) (i v:Nat) (sz off id:Nat) (kw:V→List (Nat × Option aY)→Option β):aO sz off id (.own i v) (some (.box (aC x.cells))) kw = aO sz off id (.own i v) (some (.box [.d (.int .i64 x.At),.d (.int .i64 x.Sum)])) kw:=rfl
theorem bE.st_agg {β:Type} (x:bE) (y:List V) (sz off id:Nat) (kw:V→List (Nat × Option aY)→Option β):aO sz off id (.agg y) (some (.box (aC x.cells))) kw = aO sz off id (.agg y) (some (.box [.d (.int .i64 x.At),.d (.int .i64 x.Sum)])) kw:=rfl
theorem bE.st_ptr {β:Type} (x:bE) (i v:Nat) (sz off id:Nat) (kw:V→List (Nat × Option aY)→Option β):aO sz off id (.ptr i v) (some (.box (aC x.cells))) kw = aO sz off id (.ptr i v) (some (.box [.d (.int .i64 x.At),.d (.int .i64 x.Sum)])) kw:=rfl
theorem bE.part {β:Type} (x:bE) (off id:Nat) (b:Option aY) (kw:V→List (Nat × Option aY)→Option β):aO 2 (off + 1) id (cO x.cells) b kw = aO 2 (off + 1) id (.agg [.d (.int .i64 x.At),.d (.int .i64 x.Sum)]) b kw:=rfl
theorem bE.put {β:Type} (x:bE) (id:Nat) (cs:List V) (hc:cs.length = 2) (kw:V→List (Nat × Option aY)→Option β):aO 2 0 id (cO x.cells) (some (.box cs)) kw = kw .any [(id,some (.box (aC x.cells)))]:=cW 2 id _ rfl cs hc
theorem bE.rset {β:Type} (x:bE) (off:Nat) (d:D) (ds:List D) (n:Nat) (k:List D→Option β):bT x.cells off (d :: ds) n k = bT [.int .i64 x.At,.int .i64 x.Sum] off (d :: ds) n k:=rfl
theorem bE.rfull {β:Type} (x y:bE) (k:List D→Option β):bT x.cells 0 y.cells 2 k = k y.cells:=by unfold bT; exact (if_pos ⟨rfl,Nat.le_refl _⟩).trans rfl
theorem bE.get0 {β:Type} (x:bE) (k:D→Option β):cC x.cells 0 k = k (.int .i64 x.At):=rfl
theorem bE.get1 {β:Type} (x:bE) (k:D→Option β):cC x.cells 1 k = k (.int .i64 x.Sum):=rfl
theorem bE.sub0_2 {β:Type} (x:bE) (k:List D→Option β):m0 x.cells 0 2 k = k x.cells:=rfl
theorem bE.cells_mk (f0:Int) (f1:Int):bE.cells (bE.mk f0 f1) = [.int .i64 f0,.int .i64 f1]:=rfl
structure bP where
 Kind:Int
 Who:Int
 To:Int
 Part:Int
 At:Int
 Sum:Int
 Day:Int
 City:Int
 Form:Int
 deriving Inhabited
def bP.cells (x:bP):List D:=[.int .i64 x.Kind,.int .i64 x.Who,.int .i64 x.To,.int .i64 x.Part,.int .i64 x.At,.int .i64 x.Sum,.int .i64 x.Day,.int .i64 x.City,.int .i64 x.Form]
theorem bP.sized (xs:List bP):sized 9 (cM bP.cells xs) = true:=fG _ _ (fun x=>by rfl) xs
theorem bP.len (x:bP):x.cells.length = 9:=rfl
theorem bP.size {β:Type} (x:bP) (y:Option β):kY x.cells 9 y = y:=rfl
theorem bP.eq1 {β:Type} (x:bP) (ks:List Nat) (ys:List V) (k:Bool→Option β):dR ks (aC x.cells) ys k = dR ks [.d (.int .i64 x.Kind),.d (.int .i64 x.Who),.d (.int .i64 x.To),.d (.int .i64 x.Part),.d (.int .i64 x.At),.d (.int .i64 x.Sum),.d (.int .i64 x.Day),.d (.int .i64 x.City),.d (.int .i64 x.Form)] ys k:=rfl
theorem bP.eq2 {β:Type} (x:bP) (ks:List Nat) (ys:List V) (k:Bool→Option β):dR ks ys (aC x.cells) k = dR ks ys [.d (.int .i64 x.Kind),.d (.int .i64 x.Who),.d (.int .i64 x.To),.d (.int .i64 x.Part),.d (.int .i64 x.At),.d (.int .i64 x.Sum),.d (.int .i64 x.Day),.d (.int .i64 x.City),.d (.int .i64 x.Form)] k:=rfl
theorem bP.lens {β:Type} (x:bP) (y:Option β):o8 (aC x.cells) 9 y = y:=rfl
theorem bP.vsets {β:Type} (x:bP) (z:List V) (o:Nat) (k:List V→Option β):dH z o (aC x.cells) k = dH z o [.d (.int .i64 x.Kind),.d (.int .i64 x.Who),.d (.int .i64 x.To),.d (.int .i64 x.Part),.d (.int .i64 x.At),.d (.int .i64 x.Sum),.d (.int .i64 x.Day),.d (.int .i64 x.City),.d (.int .i64 x.Form)] k:=rfl
theorem bP.st_d {β:Type} (x:bP) (y:D) (sz off id:Nat) (kw:V→List (Nat × Option aY)→Option β):aO sz off id (.d y) (some (.box (aC x.cells))) kw = aO sz off id (.d y) (some (.box [.d (.int .i64 x.Kind),.d (.int .i64 x.Who),.d (.int .i64 x.To),.d (.int .i64 x.Part),.d (.int .i64 x.At),.d (.int .i64 x.Sum),.d (.int .i64 x.Day),.d (.int .i64 x.City),.d (.int .i64 x.Form)])) kw:=rfl
theorem bP.st_nil {β:Type} (x:bP)  (sz off id:Nat) (kw:V→List (Nat × Option aY)→Option β):aO sz off id .nil (some (.box (aC x.cells))) kw = aO sz off id .nil (some (.box [.d (.int .i64 x.Kind),.d (.int .i64 x.Who),.d (.int .i64 x.To),.d (.int .i64 x.Part),.d (.int .i64 x.At),.d (.int .i64 x.Sum),.d (.int .i64 x.Day),.d (.int .i64 x.City),.d (.int .i64 x.Form)])) kw:=rfl
theorem bP.st_own {β:Type} (x:bP) (i v:Nat) (sz off id:Nat) (kw:V→List (Nat × Option aY)→Option β):aO sz off id (.own i v) (some (.box (aC x.cells))) kw = aO sz off id (.own i v) (some (.box [.d (.int .i64 x.Kind),.d (.int .i64 x.Who),.d (.int .i64 x.To),.d (.int .i64 x.Part),.d (.int .i64 x.At),.d (.int .i64 x.Sum),.d (.int .i64 x.Day),.d (.int .i64 x.City),.d (.int .i64 x.Form)])) kw:=rfl
theorem bP.st_agg {β:Type} (x:bP) (y:List V) (sz off id:Nat) (kw:V→List (Nat × Option aY)→Option β):aO sz off id (.agg y) (some (.box (aC x.cells))) kw = aO sz off id (.agg y) (some (.box [.d (.int .i64 x.Kind),.d (.int .i64 x.Who),.d (.int .i64 x.To),.d (.int .i64 x.Part),.d (.int .i64 x.At),.d (.int .i64 x.Sum),.d (.int .i64 x.Day),.d (.int .i64 x.City),.d (.int .i64 x.Form)])) kw:=rfl
theorem bP.st_ptr {β:Type} (x:bP) (i v:Nat) (sz off id:Nat) (kw:V→List (Nat × Option aY)→Option β):aO sz off id (.ptr i v) (some (.box (aC x.cells))) kw = aO sz off id (.ptr i v) (some (.box [.d (.int .i64 x.Kind),.d (.int .i64 x.Who),.d (.int .i64 x.To),.d (.int .i64 x.Part),.d (.int .i64 x.At),.d (.int .i64 x.Sum),.d (.int .i64 x.Day),.d (.int .i64 x.City),.d (.int .i64 x.Form)])) kw:=rfl
theorem bP.part {β:Type} (x:bP) (off id:Nat) (b:Option aY) (kw:V→List (Nat × Option aY)→Option β):aO 9 (off + 1) id (cO x.cells) b kw = aO 9 (off + 1) id (.agg [.d (.int .i64 x.Kind),.d (.int .i64 x.Who),.d (.int .i64 x.To),.d (.int .i64 x.Part),.d (.int .i64 x.At),.d (.int .i64 x.Sum),.d (.int .i64 x.Day),.d (.int .i64 x.City),.d (.int .i64 x.Form)]) b kw:=rfl
theorem bP.put {β:Type} (x:bP) (id:Nat) (cs:List V) (hc:cs.length = 9) (kw:V→List (Nat × Option aY)→Option β):aO 9 0 id (cO x.cells) (some (.box cs)) kw = kw .any [(id,some (.box (aC x.cells)))]:=cW 9 id _ rfl cs hc
theorem bP.rset {β:Type} (x:bP) (off:Nat) (d:D) (ds:List D) (n:Nat) (k:List D→Option β):bT x.cells off (d :: ds) n k = bT [.int .i64 x.Kind,.int .i64 x.Who,.int .i64 x.To,.int .i64 x.Part,.int .i64 x.At,.int .i64 x.Sum,.int .i64 x.Day,.int .i64 x.City,.int .i64 x.Form] off (d :: ds) n k:=rfl
theorem bP.rfull {β:Type} (x y:bP) (k:List D→Option β):bT x.cells 0 y.cells 9 k = k y.cells:=by unfold bT; exact (if_pos ⟨rfl,Nat.le_refl _⟩).trans rfl
theorem bP.get0 {β:Type} (x:bP) (k:D→Option β):cC x.cells 0 k = k (.int .i64 x.Kind):=rfl
theorem bP.get1 {β:Type} (x:bP) (k:D→Option β):cC x.cells 1 k = k (.int .i64 x.Who):=rfl
theorem bP.get2 {β:Type} (x:bP) (k:D→Option β):cC x.cells 2 k = k (.int .i64 x.To):=rfl
theorem bP.get3 {β:Type} (x:bP) (k:D→Option β):cC x.cells 3 k = k (.int .i64 x.Part):=rfl
theorem bP.get4 {β:Type} (x:bP) (k:D→Option β):cC x.cells 4 k = k (.int .i64 x.At):=rfl
theorem bP.get5 {β:Type} (x:bP) (k:D→Option β):cC x.cells 5 k = k (.int .i64 x.Sum):=rfl
theorem bP.get6 {β:Type} (x:bP) (k:D→Option β):cC x.cells 6 k = k (.int .i64 x.Day):=rfl
theorem bP.get7 {β:Type} (x:bP) (k:D→Option β):cC x.cells 7 k = k (.int .i64 x.City):=rfl
theorem bP.get8 {β:Type} (x:bP) (k:D→Option β):cC x.cells 8 k = k (.int .i64 x.Form):=rfl
theorem bP.sub0_9 {β:Type} (x:bP) (k:List D→Option β):m0 x.cells 0 9 k = k x.cells:=rfl
theorem bP.cells_mk (f0:Int) (f1:Int) (f2:Int) (f3:Int) (f4:Int) (f5:Int) (f6:Int) (f7:Int) (f8:Int):bP.cells (bP.mk f0 f1 f2 f3 f4 f5 f6 f7 f8) = [.int .i64 f0,.int .i64 f1,.int .i64 f2,.int .i64 f3,.int .i64 f4,.int .i64 f5,.int .i64 f6,.int .i64 f7,.int .i64 f8]:=rfl
structure bS where
 Kind:Int
 At:Int
 N:Int
 deriving Inhabited
def bS.cells (x:bS):List D:=[.int .i64 x.Kind,.int .i64 x.At,.int .i64 x.N]
theorem bS.sized (xs:List bS):sized 3 (cM bS.cells xs) = true:=fG _ _ (fun x=>by rfl) xs
theorem bS.len (x:bS):x.cells.length = 3:=rfl
theorem bS.size {β:Type} (x:bS) (y:Option β):kY x.cells 3 y = y:=rfl
theorem bS.eq1 {β:Type} (x:bS) (ks:List Nat) (ys:List V) (k:Bool→Option β):dR ks (aC x.cells) ys k = dR ks [.d (.int .i64 x.Kind),.d (.int .i64 x.At),.d (.int .i64 x.N)] ys k:=rfl
theorem bS.eq2 {β:Type} (x:bS) (ks:List Nat) (ys:List V) (k:Bool→Option β):dR ks ys (aC x.cells) k = dR ks ys [.d (.int .i64 x.Kind),.d (.int .i64 x.At),.d (.int .i64 x.N)] k:=rfl
theorem bS.lens {β:Type} (x:bS) (y:Option β):o8 (aC x.cells) 3 y = y:=rfl
theorem bS.vsets {β:Type} (x:bS) (z:List V) (o:Nat) (k:List V→Option β):dH z o (aC x.cells) k = dH z o [.d (.int .i64 x.Kind),.d (.int .i64 x.At),.d (.int .i64 x.N)] k:=rfl
theorem bS.st_d {β:Type} (x:bS) (y:D) (sz off id:Nat) (kw:V→List (Nat × Option aY)→Option β):aO sz off id (.d y) (some (.box (aC x.cells))) kw = aO sz off id (.d y) (some (.box [.d (.int .i64 x.Kind),.d (.int .i64 x.At),.d (.int .i64 x.N)])) kw:=rfl
theorem bS.st_nil {β:Type} (x:bS)  (sz off id:Nat) (kw:V→List (Nat × Option aY)→Option β):aO sz off id .nil (some (.box (aC x.cells))) kw = aO sz off id .nil (some (.box [.d (.int .i64 x.Kind),.d (.int .i64 x.At),.d (.int .i64 x.N)])) kw:=rfl
theorem bS.st_own {β:Type} (x:bS) (i v:Nat) (sz off id:Nat) (kw:V→List (Nat × Option aY)→Option β):aO sz off id (.own i v) (some (.box (aC x.cells))) kw = aO sz off id (.own i v) (some (.box [.d (.int .i64 x.Kind),.d (.int .i64 x.At),.d (.int .i64 x.N)])) kw:=rfl
theorem bS.st_agg {β:Type} (x:bS) (y:List V) (sz off id:Nat) (kw:V→List (Nat × Option aY)→Option β):aO sz off id (.agg y) (some (.box (aC x.cells))) kw = aO sz off id (.agg y) (some (.box [.d (.int .i64 x.Kind),.d (.int .i64 x.At),.d (.int .i64 x.N)])) kw:=rfl
theorem bS.st_ptr {β:Type} (x:bS) (i v:Nat) (sz off id:Nat) (kw:V→List (Nat × Option aY)→Option β):aO sz off id (.ptr i v) (some (.box (aC x.cells))) kw = aO sz off id (.ptr i v) (some (.box [.d (.int .i64 x.Kind),.d (.int .i64 x.At),.d (.int .i64 x.N)])) kw:=rfl
theorem bS.part {β:Type} (x:bS) (off id:Nat) (b:Option aY) (kw:V→List (Nat × Option aY)→Option β):aO 3 (off + 1) id (cO x.cells) b kw = aO 3 (off + 1) id (.agg [.d (.int .i64 x.Kind),.d (.int .i64 x.At),.d (.int .i64 x.N)]) b kw:=rfl
theorem bS.put {β:Type} (x:bS) (id:Nat) (cs:List V) (hc:cs.length = 3) (kw:V→List (Nat × Option aY)→Option β):aO 3 0 id (cO x.cells) (some (.box cs)) kw = kw .any [(id,some (.box (aC x.cells)))]:=cW 3 id _ rfl cs hc
theorem bS.rset {β:Type} (x:bS) (off:Nat) (d:D) (ds:List D) (n:Nat) (k:List D→Option β):bT x.cells off (d :: ds) n k = bT [.int .i64 x.Kind,.int .i64 x.At,.int .i64 x.N] off (d :: ds) n k:=rfl
theorem bS.rfull {β:Type} (x y:bS) (k:List D→Option β):bT x.cells 0 y.cells 3 k = k y.cells:=by unfold bT; exact (if_pos ⟨rfl,Nat.le_refl _⟩).trans rfl
theorem bS.get0 {β:Type} (x:bS) (k:D→Option β):cC x.cells 0 k = k (.int .i64 x.Kind):=rfl
theorem bS.get1 {β:Type} (x:bS) (k:D→Option β):cC x.cells 1 k = k (.int .i64 x.At):=rfl
theorem bS.get2 {β:Type} (x:bS) (k:D→Option β):cC x.cells 2 k = k (.int .i64 x.N):=rfl
theorem bS.sub0_3 {β:Type} (x:bS) (k:List D→Option β):m0 x.cells 0 3 k = k x.cells:=rfl
theorem bS.cells_mk (f0:Int) (f1:Int) (f2:Int):bS.cells (bS.mk f0 f1 f2) = [.int .i64 f0,.int .i64 f1,.int .i64 f2]:=rfl
structure aB where
 Bill:bF
 Signs:List aX
 Alters:List bE
 Acts:List bP
 Facts:List bS
 deriving Inhabited
def aB.cells (x:aB):List D:=[.int .i64 x.Bill.Drawer,.int .i64 x.Bill.Drawee,.int .i64 x.Bill.Payee,.int .i64 x.Bill.Sum,.int .i64 x.Bill.Currency,.int .i64 x.Bill.Tenor.Kind,.int .i64 x.Bill.Tenor.N,.int .i64 x.Bill.Tenor.Unit,.int .i64 x.Bill.Day,.int .i64 x.Bill.City,.int .i64 x.Bill.Pay,.int .i64 x.Bill.Need,.int .i64 x.Bill.Rate,.int .i64 x.Bill.Flags,.int .i64 x.Bill.Parts,.sl (cM aX.cells x.Signs),.sl (cM bE.cells x.Alters),.sl (cM bP.cells x.Acts),.sl (cM bS.cells x.Facts)]
theorem aB.sized (xs:List aB):sized 19 (cM aB.cells xs) = true:=fG _ _ (fun x=>by rfl) xs
theorem aB.len (x:aB):x.cells.length = 19:=rfl
theorem aB.size {β:Type} (x:aB) (y:Option β):kY x.cells 19 y = y:=rfl
theorem aB.eq1 {β:Type} (x:aB) (ks:List Nat) (ys:List V) (k:Bool→Option β):dR ks (aC x.cells) ys k = dR ks [.d (.int .i64 x.Bill.Drawer),.d (.int .i64 x.Bill.Drawee),.d (.int .i64 x.Bill.Payee),.d (.int .i64 x.Bill.Sum),.d (.int .i64 x.Bill.Currency),.d (.int .i64 x.Bill.Tenor.Kind),.d (.int .i64 x.Bill.Tenor.N),.d (.int .i64 x.Bill.Tenor.Unit),.d (.int .i64 x.Bill.Day),.d (.int .i64 x.Bill.City),.d (.int .i64 x.Bill.Pay),.d (.int .i64 x.Bill.Need),.d (.int .i64 x.Bill.Rate),.d (.int .i64 x.Bill.Flags),.d (.int .i64 x.Bill.Parts),.d (.sl (cM aX.cells x.Signs)),.d (.sl (cM bE.cells x.Alters)),.d (.sl (cM bP.cells x.Acts)),.d (.sl (cM bS.cells x.Facts))] ys k:=rfl
theorem aB.eq2 {β:Type} (x:aB) (ks:List Nat) (ys:List V) (k:Bool→Option β):dR ks ys (aC x.cells) k = dR ks ys [.d (.int .i64 x.Bill.Drawer),.d (.int .i64 x.Bill.Drawee),.d (.int .i64 x.Bill.Payee),.d (.int .i64 x.Bill.Sum),.d (.int .i64 x.Bill.Currency),.d (.int .i64 x.Bill.Tenor.Kind),.d (.int .i64 x.Bill.Tenor.N),.d (.int .i64 x.Bill.Tenor.Unit),.d (.int .i64 x.Bill.Day),.d (.int .i64 x.Bill.City),.d (.int .i64 x.Bill.Pay),.d (.int .i64 x.Bill.Need),.d (.int .i64 x.Bill.Rate),.d (.int .i64 x.Bill.Flags),.d (.int .i64 x.Bill.Parts),.d (.sl (cM aX.cells x.Signs)),.d (.sl (cM bE.cells x.Alters)),.d (.sl (cM bP.cells x.Acts)),.d (.sl (cM bS.cells x.Facts))] k:=rfl
theorem aB.lens {β:Type} (x:aB) (y:Option β):o8 (aC x.cells) 19 y = y:=rfl
theorem aB.vsets {β:Type} (x:aB) (z:List V) (o:Nat) (k:List V→Option β):dH z o (aC x.cells) k = dH z o [.d (.int .i64 x.Bill.Drawer),.d (.int .i64 x.Bill.Drawee),.d (.int .i64 x.Bill.Payee),.d (.int .i64 x.Bill.Sum),.d (.int .i64 x.Bill.Currency),.d (.int .i64 x.Bill.Tenor.Kind),.d (.int .i64 x.Bill.Tenor.N),.d (.int .i64 x.Bill.Tenor.Unit),.d (.int .i64 x.Bill.Day),.d (.int .i64 x.Bill.City),.d (.int .i64 x.Bill.Pay),.d (.int .i64 x.Bill.Need),.d (.int .i64 x.Bill.Rate),.d (.int .i64 x.Bill.Flags),.d (.int .i64 x.Bill.Parts),.d (.sl (cM aX.cells x.Signs)),.d (.sl (cM bE.cells x.Alters)),.d (.sl (cM bP.cells x.Acts)),.d (.sl (cM bS.cells x.Facts))] k:=rfl
theorem aB.st_d {β:Type} (x:aB) (y:D) (sz off id:Nat) (kw:V→List (Nat × Option aY)→Option β):aO sz off id (.d y) (some (.box (aC x.cells))) kw = aO sz off id (.d y) (some (.box [.d (.int .i64 x.Bill.Drawer),.d (.int .i64 x.Bill.Drawee),.d (.int .i64 x.Bill.Payee),.d (.int .i64 x.Bill.Sum),.d (.int .i64 x.Bill.Currency),.d (.int .i64 x.Bill.Tenor.Kind),.d (.int .i64 x.Bill.Tenor.N),.d (.int .i64 x.Bill.Tenor.Unit),.d (.int .i64 x.Bill.Day),.d (.int .i64 x.Bill.City),.d (.int .i64 x.Bill.Pay),.d (.int .i64 x.Bill.Need),.d (.int .i64 x.Bill.Rate),.d (.int .i64 x.Bill.Flags),.d (.int .i64 x.Bill.Parts),.d (.sl (cM aX.cells x.Signs)),.d (.sl (cM bE.cells x.Alters)),.d (.sl (cM bP.cells x.Acts)),.d (.sl (cM bS.cells x.Facts))])) kw:=rfl
theorem aB.st_nil {β:Type} (x:aB)  (sz off id:Nat) (kw:V→List (Nat × Option aY)→Option β):aO sz off id .nil (some (.box (aC x.cells))) kw = aO sz off id .nil (some (.box [.d (.int .i64 x.Bill.Drawer),.d (.int .i64 x.Bill.Drawee),.d (.int .i64 x.Bill.Payee),.d (.int .i64 x.Bill.Sum),.d (.int .i64 x.Bill.Currency),.d (.int .i64 x.Bill.Tenor.Kind),.d (.int .i64 x.Bill.Tenor.N),.d (.int .i64 x.Bill.Tenor.Unit),.d (.int .i64 x.Bill.Day),.d (.int .i64 x.Bill.City),.d (.int .i64 x.Bill.Pay),.d (.int .i64 x.Bill.Need),.d (.int .i64 x.Bill.Rate),.d (.int .i64 x.Bill.Flags),.d (.int .i64 x.Bill.Parts),.d (.sl (cM aX.cells x.Signs)),.d (.sl (cM bE.cells x.Alters)),.d (.sl (cM bP.cells x.Acts)),.d (.sl (cM bS.cells x.Facts))])) kw:=rfl
theorem aB.st_own {β:Type} (x:aB) (i v:Nat) (sz off id:Nat) (kw:V→List (Nat × Option aY)→Option β):aO sz off id (.own i v) (some (.box (aC x.cells))) kw = aO sz off id (.own i v) (some (.box [.d (.int .i64 x.Bill.Drawer),.d (.int .i64 x.Bill.Drawee),.d (.int .i64 x.Bill.Payee),.d (.int .i64 x.Bill.Sum),.d (.int .i64 x.Bill.Currency),.d (.int .i64 x.Bill.Tenor.Kind),.d (.int .i64 x.Bill.Tenor.N),.d (.int .i64 x.Bill.Tenor.Unit),.d (.int .i64 x.Bill.Day),.d (.int .i64 x.Bill.City),.d (.int .i64 x.Bill.Pay),.d (.int .i64 x.Bill.Need),.d (.int .i64 x.Bill.Rate),.d (.int .i64 x.Bill.Flags),.d (.int .i64 x.Bill.Parts),.d (.sl (cM aX.cells x.Signs)),.d (.sl (cM bE.cells x.Alters)),.d (.sl (cM bP.cells x.Acts)),.d (.sl (cM bS.cells x.Facts))])) kw:=rfl
theorem aB.st_agg {β:Type} (x:aB) (y:List V) (sz off id:Nat) (kw:V→List (Nat × Option aY)→Option β):aO sz off id (.agg y) (some (.box (aC x.cells))) kw = aO sz off id (.agg y) (some (.box [.d (.int .i64 x.Bill.Drawer),.d (.int .i64 x.Bill.Drawee),.d (.int .i64 x.Bill.Payee),.d (.int .i64 x.Bill.Sum),.d (.int .i64 x.Bill.Currency),.d (.int .i64 x.Bill.Tenor.Kind),.d (.int .i64 x.Bill.Tenor.N),.d (.int .i64 x.Bill.Tenor.Unit),.d (.int .i64 x.Bill.Day),.d (.int .i64 x.Bill.City),.d (.int .i64 x.Bill.Pay),.d (.int .i64 x.Bill.Need),.d (.int .i64 x.Bill.Rate),.d (.int .i64 x.Bill.Flags),.d (.int .i64 x.Bill.Parts),.d (.sl (cM aX.cells x.Signs)),.d (.sl (cM bE.cells x.Alters)),.d (.sl (cM bP.cells x.Acts)),.d (.sl (cM bS.cells x.Facts))])) kw:=rfl
theorem aB.st_ptr {β:Type} (x:aB) (i v:Nat) (sz off id:Nat) (kw:V→List (Nat × Option aY)→Option β):aO sz off id (.ptr i v) (some (.box (aC x.cells))) kw = aO sz off id (.ptr i v) (some (.box [.d (.int .i64 x.Bill.Drawer),.d (.int .i64 x.Bill.Drawee),.d (.int .i64 x.Bill.Payee),.d (.int .i64 x.Bill.Sum),.d (.int .i64 x.Bill.Currency),.d (.int .i64 x.Bill.Tenor.Kind),.d (.int .i64 x.Bill.Tenor.N),.d (.int .i64 x.Bill.Tenor.Unit),.d (.int .i64 x.Bill.Day),.d (.int .i64 x.Bill.City),.d (.int .i64 x.Bill.Pay),.d (.int .i64 x.Bill.Need),.d (.int .i64 x.Bill.Rate),.d (.int .i64 x.Bill.Flags),.d (.int .i64 x.Bill.Parts),.d (.sl (cM aX.cells x.Signs)),.d (.sl (cM bE.cells x.Alters)),.d (.sl (cM bP.cells x.Acts)),.d (.sl (cM bS.cells x.Facts))])) kw:=rfl
theorem aB.part {β:Type} (x:aB) (off id:Nat) (b:Option aY) (kw:V→List (Nat × Option aY)→Option β):aO 19 (off + 1) id (cO x.cells) b kw = aO 19 (off + 1) id (.agg [.d (.int .i64 x.Bill.Drawer),.d (.int .i64 x.Bill.Drawee),.d (.int .i64 x.Bill.Payee),.d (.int .i64 x.Bill.Sum),.d (.int .i64 x.Bill.Currency),.d (.int .i64 x.Bill.Tenor.Kind),.d (.int .i64 x.Bill.Tenor.N),.d (.int .i64 x.Bill.Tenor.Unit),.d (.int .i64 x.Bill.Day),.d (.int .i64 x.Bill.City),.d (.int .i64 x.Bill.Pay),.d (.int .i64 x.Bill.Need),.d (.int .i64 x.Bill.Rate),.d (.int .i64 x.Bill.Flags),.d (.int .i64 x.Bill.Parts),.d (.sl (cM aX.cells x.Signs)),.d (.sl (cM bE.cells x.Alters)),.d (.sl (cM bP.cells x.Acts)),.d (.sl (cM bS.cells x.Facts))]) b kw:=rfl
theorem aB.put {β:Type} (x:aB) (id:Nat) (cs:List V) (hc:cs.length = 19) (kw:V→List (Nat × Option aY)→Option β):aO 19 0 id (cO x.cells) (some (.box cs)) kw = kw .any [(id,some (.box (aC x.cells)))]:=cW 19 id _ rfl cs hc
theorem aB.rset {β:Type} (x:aB) (off:Nat) (d:D) (ds:List D) (n:Nat) (k:List D→Option β):bT x.cells off (d :: ds) n k = bT [.int .i64 x.Bill.Drawer,.int .i64 x.Bill.Drawee,.int .i64 x.Bill.Payee,.int .i64 x.Bill.Sum,.int .i64 x.Bill.Currency,.int .i64 x.Bill.Tenor.Kind,.int .i64 x.Bill.Tenor.N,.int .i64 x.Bill.Tenor.Unit,.int .i64 x.Bill.Day,.int .i64 x.Bill.City,.int .i64 x.Bill.Pay,.int .i64 x.Bill.Need,.int .i64 x.Bill.Rate,.int .i64 x.Bill.Flags,.int .i64 x.Bill.Parts,.sl (cM aX.cells x.Signs),.sl (cM bE.cells x.Alters),.sl (cM bP.cells x.Acts),.sl (cM bS.cells x.Facts)] off (d :: ds) n k:=rfl
theorem aB.rfull {β:Type} (x y:aB) (k:List D→Option β):bT x.cells 0 y.cells 19 k = k y.cells:=by unfold bT; exact (if_pos ⟨rfl,Nat.le_refl _⟩).trans rfl
theorem aB.get0 {β:Type} (x:aB) (k:D→Option β):cC x.cells 0 k = k (.int .i64 x.Bill.Drawer):=rfl
theorem aB.get1 {β:Type} (x:aB) (k:D→Option β):cC x.cells 1 k = k (.int .i64 x.Bill.Drawee):=rfl
theorem aB.get2 {β:Type} (x:aB) (k:D→Option β):cC x.cells 2 k = k (.int .i64 x.Bill.Payee):=rfl
theorem aB.get3 {β:Type} (x:aB) (k:D→Option β):cC x.cells 3 k = k (.int .i64 x.Bill.Sum):=rfl
theorem aB.get4 {β:Type} (x:aB) (k:D→Option β):cC x.cells 4 k = k (.int .i64 x.Bill.Currency):=rfl
theorem aB.get5 {β:Type} (x:aB) (k:D→Option β):cC x.cells 5 k = k (.int .i64 x.Bill.Tenor.Kind):=rfl
theorem aB.get6 {β:Type} (x:aB) (k:D→Option β):cC x.cells 6 k = k (.int .i64 x.Bill.Tenor.N):=rfl
theorem aB.get7 {β:Type} (x:aB) (k:D→Option β):cC x.cells 7 k = k (.int .i64 x.Bill.Tenor.Unit):=rfl
theorem aB.get8 {β:Type} (x:aB) (k:D→Option β):cC x.cells 8 k = k (.int .i64 x.Bill.Day):=rfl
theorem aB.get9 {β:Type} (x:aB) (k:D→Option β):cC x.cells 9 k = k (.int .i64 x.Bill.City):=rfl
theorem aB.get10 {β:Type} (x:aB) (k:D→Option β):cC x.cells 10 k = k (.int .i64 x.Bill.Pay):=rfl
theorem aB.get11 {β:Type} (x:aB) (k:D→Option β):cC x.cells 11 k = k (.int .i64 x.Bill.Need):=rfl
theorem aB.get12 {β:Type} (x:aB) (k:D→Option β):cC x.cells 12 k = k (.int .i64 x.Bill.Rate):=rfl
theorem aB.get13 {β:Type} (x:aB) (k:D→Option β):cC x.cells 13 k = k (.int .i64 x.Bill.Flags):=rfl
theorem aB.get14 {β:Type} (x:aB) (k:D→Option β):cC x.cells 14 k = k (.int .i64 x.Bill.Parts):=rfl
theorem aB.get15 {β:Type} (x:aB) (k:D→Option β):cC x.cells 15 k = k (.sl (cM aX.cells x.Signs)):=rfl
theorem aB.get16 {β:Type} (x:aB) (k:D→Option β):cC x.cells 16 k = k (.sl (cM bE.cells x.Alters)):=rfl
theorem aB.get17 {β:Type} (x:aB) (k:D→Option β):cC x.cells 17 k = k (.sl (cM bP.cells x.Acts)):=rfl
theorem aB.get18 {β:Type} (x:aB) (k:D→Option β):cC x.cells 18 k = k (.sl (cM bS.cells x.Facts)):=rfl
theorem aB.sub0_19 {β:Type} (x:aB) (k:List D→Option β):m0 x.cells 0 19 k = k x.cells:=rfl
theorem aB.sub0_15 {β:Type} (x:aB) (k:List D→Option β):m0 x.cells 0 15 k = k (bF.cells x.Bill):=rfl
theorem aB.sub5_3 {β:Type} (x:aB) (k:List D→Option β):m0 x.cells 5 3 k = k (bR.cells x.Bill.Tenor):=rfl
theorem aB.cells_mk (f0:bF) (f1:List aX) (f2:List bE) (f3:List bP) (f4:List bS):aB.cells (aB.mk f0 f1 f2 f3 f4) = [.int .i64 f0.Drawer,.int .i64 f0.Drawee,.int .i64 f0.Payee,.int .i64 f0.Sum,.int .i64 f0.Currency,.int .i64 f0.Tenor.Kind,.int .i64 f0.Tenor.N,.int .i64 f0.Tenor.Unit,.int .i64 f0.Day,.int .i64 f0.City,.int .i64 f0.Pay,.int .i64 f0.Need,.int .i64 f0.Rate,.int .i64 f0.Flags,.int .i64 f0.Parts,.sl (cM aX.cells f1),.sl (cM bE.cells f2),.sl (cM bP.cells f3),.sl (cM bS.cells f4)]:=rfl
theorem aJ0 {β:Type} (x:Int) (k:D→Option β):cC (cI x) 0 k = k (.int .i64 x):=rfl
theorem aFZ {β:Type} (x:Int) (off:Nat) (d:D) (ds:List D) (n:Nat) (k:List D→Option β):bT (cI x) off (d :: ds) n k = bT [.int .i64 x] off (d :: ds) n k:=rfl
theorem aGl {β:Type} (x:Int) (y:Option β):kY (cI x) 1 y = y:=rfl
theorem aJG {β:Type} (x:Bool) (k:D→Option β):cC (cB x) 0 k = k (.bool x):=rfl
theorem aGC {β:Type} (x:Bool) (off:Nat) (d:D) (ds:List D) (n:Nat) (k:List D→Option β):bT (cB x) off (d :: ds) n k = bT [.bool x] off (d :: ds) n k:=rfl
theorem aHT {β:Type} (x:Bool) (y:Option β):kY (cB x) 1 y = y:=rfl
theorem aJh {β:Type} (x:ByteArray) (k:D→Option β):cC (cS x) 0 k = k (.str x):=rfl
theorem aHI {β:Type} (x:ByteArray) (off:Nat) (d:D) (ds:List D) (n:Nat) (k:List D→Option β):bT (cS x) off (d :: ds) n k = bT [.str x] off (d :: ds) n k:=rfl
theorem aHv {β:Type} (x:ByteArray) (y:Option β):kY (cS x) 1 y = y:=rfl
theorem aHr {β:Type} (x0:D) (y:Option β):kY [x0] 1 y = y:=rfl
theorem aFr {β:Type} (x0 x1:D) (y:Option β):kY [x0,x1] 2 y = y:=rfl
theorem aHW {β:Type} (x0 x1 x2:D) (y:Option β):kY [x0,x1,x2] 3 y = y:=rfl
theorem aIC {β:Type} (x0 x1 x2 x3:D) (y:Option β):kY [x0,x1,x2,x3] 4 y = y:=rfl
theorem aF4 {β:Type} (x0 x1 x2 x3 x4:D) (y:Option β):kY [x0,x1,x2,x3,x4] 5 y = y:=rfl
theorem aGN {β:Type} (x0 x1 x2 x3 x4 x5:D) (y:Option β):kY [x0,x1,x2,x3,x4,x5] 6 y = y:=rfl
theorem aG2 {β:Type} (x0 x1 x2 x3 x4 x5 x6 x7:D) (y:Option β):kY [x0,x1,x2,x3,x4,x5,x6,x7] 8 y = y:=rfl
theorem aH6 {β:Type} (x0 x1 x2 x3 x4 x5 x6 x7 x8:D) (y:Option β):kY [x0,x1,x2,x3,x4,x5,x6,x7,x8] 9 y = y:=rfl
theorem aFj {β:Type} (x0 x1 x2 x3 x4 x5 x6 x7 x8 x9 x10 x11 x12 x13 x14:D) (y:Option β):kY [x0,x1,x2,x3,x4,x5,x6,x7,x8,x9,x10,x11,x12,x13,x14] 15 y = y:=rfl
theorem aKy {β:Type} (i:IntKind) (x:Int) (k:D→Option β):cC (cK i x) 0 k = k (.int i x):=rfl
theorem aHf {β:Type} (i:IntKind) (x:Int) (off:Nat) (d:D) (ds:List D) (n:Nat) (k:List D→Option β):bT (cK i x) off (d :: ds) n k = bT [.int i x] off (d :: ds) n k:=rfl
theorem aHg {β α:Type} (c:α→List D) (x:List α) (off:Nat) (d:D) (ds:List D) (n:Nat) (k:List D→Option β):bT (cL c x) off (d :: ds) n k = bT [.sl (cM c x)] off (d :: ds) n k:=rfl
theorem aHl {β:Type} (i:IntKind) (x:Int) (y:Option β):kY (cK i x) 1 y = y:=rfl
theorem aJ5 {β α:Type} (c:α→List D) (x:List α) (k:D→Option β):cC (cL c x) 0 k = k (.sl (cM c x)):=rfl
theorem aFH {β α:Type} (c:α→List D) (x:List α) (y:Option β):kY (cL c x) 1 y = y:=rfl
theorem WJ {β:Type} {T:FU} {d:Nat} {fr:List (Nat × V)} {bl:List (Nat × Option aY)} {k:V→Option β} {kw:V→List (Nat × Option aY)→Option β} (l cp:eM):wL T d (.makeSlice 4 1 1 [.bool false] l cp) fr bl k kw = fI bl d fun b=>s4 b (dU fr l fun a=>dU fr cp fun b=>aJW 1 a b fun n=>kw (.own d 0) [(d,some (.rows 0 4 1 (cM cB (List.replicate n false))))]):=aMk 4 1 1 [.bool false] cB (false:Bool) rfl l cp
theorem N9 {β:Type} (a0_0:Int) (k:List (List D)→Option β):O5 113 [[.int .i64 a0_0]] k = k (cM bO.cells ([(bO.mk a0_0)]:List bO)):=rfl
theorem LU {β:Type} (a0_0:ByteArray) (a0_1:Int) (a0_2:Int) (a1_0:ByteArray) (a1_1:Int) (a1_2:Int) (a2_0:ByteArray) (a2_1:Int) (a2_2:Int) (k:List (List D)→Option β):O5 115 [[.str a0_0,.int .i64 a0_1,.int .i64 a0_2],[.str a1_0,.int .i64 a1_1,.int .i64 a1_2],[.str a2_0,.int .i64 a2_1,.int .i64 a2_2]] k = k (cM bU.cells ([(bU.mk a0_0 a0_1 a0_2),(bU.mk a1_0 a1_1 a1_2),(bU.mk a2_0 a2_1 a2_2)]:List bU)):=rfl
theorem SJ {β:Type} (k:List (List D)→Option β):O5 3 [] k = k (cM cI ([]:List Int)):=rfl
theorem PK {β:Type} (a0:Int) (a1:Int) (k:List (List D)→Option β):O5 3 [[.int .i64 a0],[.int .i64 a1]] k = k (cM cI ([a0,a1]:List Int)):=rfl
theorem MS {β:Type} (a0:Int) (a1:Int) (a2:Int) (a3:Int) (k:List (List D)→Option β):O5 3 [[.int .i64 a0],[.int .i64 a1],[.int .i64 a2],[.int .i64 a3]] k = k (cM cI ([a0,a1,a2,a3]:List Int)):=rfl
theorem Q9 {β:Type} (a0:Int) (k:List (List D)→Option β):O5 3 [[.int .i64 a0]] k = k (cM cI ([a0]:List Int)):=rfl
theorem T6 {β:Type} (k:List (List D)→Option β):O5 4 [] k = k (cM cB ([]:List Bool)):=rfl
theorem RX {β:Type} (a0:Bool) (k:List (List D)→Option β):O5 4 [[.bool a0]] k = k (cM cB ([a0]:List Bool)):=rfl
theorem RE {β:Type} (k:List (List D)→Option β):O5 66 [] k = k (cM aX.cells ([]:List aX)):=rfl
theorem MM {β:Type} (a0_0:Int) (a0_1:Int) (a0_2:Int) (a0_3:Int) (a0_4:Int) (a0_5:Int) (a0_6:Int) (a0_7:Int) (a0_8:Int) (a1_0:Int) (a1_1:Int) (a1_2:Int) (a1_3:Int) (a1_4:Int) (a1_5:Int) (a1_6:Int) (a1_7:Int) (a1_8:Int) (a2_0:Int) (a2_1:Int) (a2_2:Int) (a2_3:Int) (a2_4:Int) (a2_5:Int) (a2_6:Int) (a2_7:Int) (a2_8:Int) (k:List (List D)→Option β):O5 66 [[.int .i64 a0_0,.int .i64 a0_1,.int .i64 a0_2,.int .i64 a0_3,.int .i64 a0_4,.int .i64 a0_5,.int .i64 a0_6,.int .i64 a0_7,.int .i64 a0_8],[.int .i64 a1_0,.int .i64 a1_1,.int .i64 a1_2,.int .i64 a1_3,.int .i64 a1_4,.int .i64 a1_5,.int .i64 a1_6,.int .i64 a1_7,.int .i64 a1_8],[.int .i64 a2_0,.int .i64 a2_1,.int .i64 a2_2,.int .i64 a2_3,.int .i64 a2_4,.int .i64 a2_5,.int .i64 a2_6,.int .i64 a2_7,.int .i64 a2_8]] k = k (cM aX.cells ([(aX.mk a0_0 a0_1 a0_2 a0_3 a0_4 a0_5 a0_6 a0_7 a0_8),(aX.mk a1_0 a1_1 a1_2 a1_3 a1_4 a1_5 a1_6 a1_7 a1_8),(aX.mk a2_0 a2_1 a2_2 a2_3 a2_4 a2_5 a2_6 a2_7 a2_8)]:List aX)):=rfl
theorem O9 {β:Type} (a0:aX) (k:List (List D)→Option β):O5 66 [aX.cells a0] k = k (cM aX.cells ([a0]:List aX)):=rfl
theorem PS {β:Type} (a0_0:Int) (a0_1:Int) (k:List (List D)→Option β):O5 72 [[.int .i64 a0_0,.int .i64 a0_1]] k = k (cM bE.cells ([(bE.mk a0_0 a0_1)]:List bE)):=rfl
theorem JB {β:Type} (a0_0:ByteArray) (a0_1:Int) (a0_2:Int) (k:List (List D)→Option β):O5 87 [[.str a0_0,.int .i64 a0_1,.int .i64 a0_2,.sl [],.sl [],.sl []]] k = k (cM bL.cells ([(bL.mk a0_0 a0_1 a0_2 [] [] [])]:List bL)):=rfl
theorem ST {β:Type} (k:List (List D)→Option β):O5 9 [] k = k (cM cS ([]:List ByteArray)):=rfl
theorem Q5 {β:Type} (a0:ByteArray) (k:List (List D)→Option β):O5 9 [[.str a0]] k = k (cM cS ([a0]:List ByteArray)):=rfl
theorem LF {β:Type} (a0_0:ByteArray) (a0_1:Bool) (k:List (List D)→Option β):O5 91 [[.str a0_0,.bool a0_1,.sl [],.sl []]] k = k (cM bD.cells ([(bD.mk a0_0 a0_1 [] [])]:List bD)):=rfl
theorem WO {β:Type} (xs:List Bool) (i:Nat) (a:Bool) (k:List (List D)→Option β):G0 4 (cM cB xs) i [.bool a] k = k (cM cB (xs.set i a)):=N0 4 cB xs i a k
/- all rules as one -/
set_option linter.defProp false
def DN:=aN (aN (aN (aN (aN (aN (aN (aN @aJA (aN @aJR @aJu)) (aN @aEG (aN @aD6 @aAJ))) (aN (aN @aGa (aN @aH2 @aIi)) (aN (aN @VT @aCW) (aN @aDZ @XF)))) (aN (aN (aN @VE (aN @aBE @TH)) (aN @aBt (aN @aIk @aJs))) (aN (aN @aDS (aN @aC6 @aEL)) (aN (aN @aDq @aAh) (aN @YG @aDF))))) (aN (aN (aN (aN @aCK (aN @V4 @VL)) (aN @V3 (aN @aFI @aBw))) (aN (aN @aAk (aN @aBs @X8)) (aN (aN @aBV @X7) (aN @aC2 @aCX)))) (aN (aN (aN @X1 (aN @VN @XB)) (aN @aBn (aN @Q3 @WC))) (aN (aN @VV (aN @aDt @aEj)) (aN (aN @aDH @aAO) (aN @aHs @aBK)))))) (aN (aN (aN (aN (aN @PR (aN @aCr @RV)) (aN @PH (aN @aIc @aAQ))) (aN (aN @PC (aN @aBq @XW)) (aN (aN @WG @VD) (aN @aCR @aEI)))) (aN (aN (aN @aBr (aN @XX @TY)) (aN @aBM (aN @aFQ @aEZ))) (aN (aN @aDJ (aN @aDE @NL)) (aN (aN @aFo @aHB) (aN @aJB @aCA))))) (aN (aN (aN (aN @SD (aN @aBW @aCf)) (aN @aCt (aN @aGP @aGF))) (aN (aN @TS (aN @aCB @aA3)) (aN (aN @VW @aB7) (aN @aDW @aAT)))) (aN (aN (aN @VK (aN @aFz @aIF)) (aN (aN @W5 @aEi) (aN @XQ @aD4))) (aN (aN @aC1 (aN @W4 @IC)) (aN (aN @aBB @aDG) (aN @aBZ @aAV))))))) (aN (aN (aN (aN (aN (aN @aGD (aN @aIb @TK)) (aN @SZ (aN @aBz @aCQ))) (aN (aN @aAZ (aN @aJM @aED)) (aN (aN @aFe @aD5) (aN @aBo @aBL)))) (aN (aN (aN @aDi (aN @aE1 @aCM)) (aN @aBI (aN @aAD @aHz))) (aN (aN @aCT (aN @aDB @aID)) (aN (aN @aEy @aJi) (aN @aKA @aKa))))) (aN (aN (aN (aN @aEY (aN @aEd @aEp)) (aN @aG5 (aN @aG6 @aIm))) (aN (aN @aBb (aN @VO @V7)) (aN (aN @aCD @aDO) (aN @aHc @aHi)))) (aN (aN (aN @XR (aN @aCN @aAF)) (aN @aES (aN @aDL @aAn))) (aN (aN @aEA (aN @aGM @aHC)) (aN (aN @aGJ @aJX) (aN @aJF @aDA)))))) (aN (aN (aN (aN (aN @aFk (aN @aEf @aBi)) (aN @aFO (aN @aBm @UX))) (aN (aN @aCg (aN @SF @aHS)) (aN (aN @aIr @aE6) (aN @aC8 @aCC)))) (aN (aN (aN @aDK (aN @aEO @aEh)) (aN @aFh (aN @aCq @aHR))) (aN (aN @aIG (aN @aFY @aJ7)) (aN (aN @aKn @aJn) (aN @aGg @aIg))))) (aN (aN (aN (aN @aF2 (aN @aG4 @aC5)) (aN @aDs (aN @aB5 @aAt))) (aN (aN @aDw (aN @aAe @aCi)) (aN (aN @YE @aF7) (aN @aJ8 @aD3)))) (aN (aN (aN @aGk (aN @aGj @aHd)) (aN (aN @aCU @PI) (aN @aBX @PF))) (aN (aN @aAy (aN @aBu @YH)) (aN (aN @NK @aC0) (aN @UL @aHU)))))))) (aN (aN (aN (aN (aN (aN (aN @aFw (aN @aEM @W3)) (aN @VX (aN @UR @WF))) (aN (aN @W8 (aN @SX @WA)) (aN (aN @aBv @WU) (aN @X2 @S1)))) (aN (aN (aN @aBS (aN @WS @aHw)) (aN @aHD (aN @YV @aAH))) (aN (aN @XE (aN @YR @WQ)) (aN (aN @RK @aA7) (aN @aE9 @aDP))))) (aN (aN (aN (aN @aHL (aN @aEt @aDc)) (aN @aDr (aN @TI @aGi))) (aN (aN @aFR (aN @UT @V2)) (aN (aN @W9 @aFa) (aN @aEe @aBN)))) (aN (aN (aN @TB (aN @UY @UQ)) (aN @aFq (aN @aGp @SL))) (aN (aN @aHG (aN @aJz @aIo)) (aN (aN @aL1 @aFs) (aN @RZ @UE)))))) (aN (aN (aN (aN (aN @SY (aN @N0 @aJD)) (aN @aJ3 (aN @aJE @aGn))) (aN (aN @aLJ (aN @aLe @aLn)) (aN (aN @aDX @aEg) (aN @aDf @aDo)))) (aN (aN (aN @aFb (aN @aE2 @aCS)) (aN @aEc (aN @aEU @aDV))) (aN (aN @aC4 (aN @aEx @aFy)) (aN (aN @aDe @aA4) (aN @aB3 @aBx))))) (aN (aN (aN (aN @aBy (aN @aAl @aAC)) (aN @aAW (aN @aAr @aAx))) (aN (aN @aA5 (aN @aIf @aGs)) (aN (aN @aFF @aDn) (aN @aAE @QG)))) (aN (aN (aN @MI (aN @MA @aGI)) (aN (aN @aDD @aDv) (aN @aCk @aBQ))) (aN (aN @aHX (aN @aCp @WR)) (aN (aN @YL @aHp) (aN @aKd @aKb))))))) (aN (aN (aN (aN (aN (aN @aB4 (aN @aB2 @aAs)) (aN @aCh (aN @VS @WL))) (aN (aN @YC (aN @VZ @YS)) (aN (aN @VQ @YO) (aN @XT @SB)))) (aN (aN (aN @aEE (aN @VI @V5)) (aN @aCe (aN @aAz @WW))) (aN (aN @aL6 (aN @aFM @aGq)) (aN (aN @aD1 @aCs) (aN @aCc @aF6))))) (aN (aN (aN (aN @aHo (aN @aCa @FB)) (aN @aJU (aN @aCw @aEP))) (aN (aN @TE (aN @aAR @aJZ)) (aN (aN @U2 @aAL) (aN @aEl @aDb)))) (aN (aN (aN @aJI (aN @aJ9 @aIw)) (aN (aN @aCL @aA8) (aN @X5 @aHA))) (aN (aN @aKu (aN @aJJ @aEK)) (aN (aN @aKc @aBG) (aN @XI @aBe)))))) (aN (aN (aN (aN (aN @XL (aN @aIh @aFK)) (aN @aGB (aN @aGA @aKf))) (aN (aN @aCJ (aN @aJl @aEz)) (aN (aN @O8 @PO) (aN @OT @aGo)))) (aN (aN (aN @aAj (aN @aB6 @aAS)) (aN @YQ (aN @UW @aAM))) (aN (aN @U6 (aN @VJ @US)) (aN (aN @UD @XP) (aN @VA @VM))))) (aN (aN (aN (aN @YI (aN @aCI @aD7)) (aN @YN (aN @XZ @WY))) (aN (aN @aBl (aN @YF @VC)) (aN (aN @VU @UZ) (aN @PB @UV)))) (aN (aN (aN @TA (aN @aJY @aJQ)) (aN (aN @aJ1 @aDU) (aN @aCG @aBA))) (aN (aN @aIs (aN @aIv @aJv)) (aN (aN @aCo @aCb) (aN @aJx @aKh))))))))
def DR:=aN (aN (aN (aN (aN (aN (aN (aN @bL.size (aN @bL.eq1 @bL.eq2)) (aN @bL.lens (aN @bL.vsets @bL.st_d))) (aN (aN @bL.st_nil (aN @bL.st_own @bL.st_agg)) (aN (aN @bL.st_ptr @bL.part) (aN @bL.put @bL.rset)))) (aN (aN (aN @bL.rfull (aN @bL.get0 @bL.get1)) (aN @bL.get2 (aN @bL.get3 @bL.get4))) (aN (aN @bL.get5 (aN @bL.sub0_6 @bO.size)) (aN (aN @bO.eq1 @bO.eq2) (aN @bO.lens @bO.vsets))))) (aN (aN (aN (aN @bO.st_d (aN @bO.st_nil @bO.st_own)) (aN @bO.st_agg (aN @bO.st_ptr @bO.part))) (aN (aN @bO.put (aN @bO.rset @bO.rfull)) (aN (aN @bO.get0 @bO.sub0_1) (aN @bU.size @bU.eq1)))) (aN (aN (aN @bU.eq2 (aN @bU.lens @bU.vsets)) (aN @bU.st_d (aN @bU.st_nil @bU.st_own))) (aN (aN @bU.st_agg (aN @bU.st_ptr @bU.part)) (aN (aN @bU.put @bU.rset) (aN @bU.rfull @bU.get0)))))) (aN (aN (aN (aN (aN @bU.get1 (aN @bU.get2 @bU.sub0_3)) (aN @bH.size (aN @bH.eq1 @bH.eq2))) (aN (aN @bH.lens (aN @bH.vsets @bH.st_d)) (aN (aN @bH.st_nil @bH.st_own) (aN @bH.st_agg @bH.st_ptr)))) (aN (aN (aN @bH.part (aN @bH.put @bH.rset)) (aN @bH.rfull (aN @bH.get0 @bH.get1))) (aN (aN @bH.get2 (aN @bH.sub0_3 @cE.size)) (aN (aN @cE.eq1 @cE.eq2) (aN @cE.lens @cE.vsets))))) (aN (aN (aN (aN @cE.st_d (aN @cE.st_nil @cE.st_own)) (aN @cE.st_agg (aN @cE.st_ptr @cE.part))) (aN (aN @cE.put (aN @cE.rset @cE.rfull)) (aN (aN @cE.get0 @cE.get1) (aN @cE.get2 @cE.sub0_3)))) (aN (aN (aN @bW.size (aN @bW.eq1 @bW.eq2)) (aN @bW.lens (aN @bW.vsets @bW.st_d))) (aN (aN @bW.st_nil (aN @bW.st_own @bW.st_agg)) (aN (aN @bW.st_ptr @bW.part) (aN @bW.put @bW.rset))))))) (aN (aN (aN (aN (aN (aN @bW.rfull (aN @bW.get0 @bW.get1)) (aN @bW.get2 (aN @bW.get3 @bW.sub0_4))) (aN (aN @bW.sub1_3 (aN @bD.size @bD.eq1)) (aN (aN @bD.eq2 @bD.lens) (aN @bD.vsets @bD.st_d)))) (aN (aN (aN @bD.st_nil (aN @bD.st_own @bD.st_agg)) (aN @bD.st_ptr (aN @bD.part @bD.put))) (aN (aN @bD.rset (aN @bD.rfull @bD.get0)) (aN (aN @bD.get1 @bD.get2) (aN @bD.get3 @bD.sub0_4))))) (aN (aN (aN (aN @bA.size (aN @bA.eq1 @bA.eq2)) (aN @bA.lens (aN @bA.vsets @bA.st_d))) (aN (aN @bA.st_nil (aN @bA.st_own @bA.st_agg)) (aN (aN @bA.st_ptr @bA.part) (aN @bA.put @bA.rset)))) (aN (aN (aN @bA.rfull (aN @bA.get0 @bA.get1)) (aN @bA.get2 (aN @bA.sub0_3 @bX.size))) (aN (aN @bX.eq1 (aN @bX.eq2 @bX.lens)) (aN (aN @bX.vsets @bX.st_d) (aN @bX.st_nil @bX.st_own)))))) (aN (aN (aN (aN (aN @bX.st_agg (aN @bX.st_ptr @bX.part)) (aN @bX.put (aN @bX.rset @bX.rfull))) (aN (aN @bX.get0 (aN @bX.get1 @bX.get2)) (aN (aN @bX.get3 @bX.get4) (aN @bX.sub0_5 @bZ.size)))) (aN (aN (aN @bZ.eq1 (aN @bZ.eq2 @bZ.lens)) (aN @bZ.vsets (aN @bZ.st_d @bZ.st_nil))) (aN (aN @bZ.st_own (aN @bZ.st_agg @bZ.st_ptr)) (aN (aN @bZ.part @bZ.put) (aN @bZ.rset @bZ.rfull))))) (aN (aN (aN (aN @bZ.get0 (aN @bZ.get1 @bZ.get2)) (aN @bZ.sub0_3 (aN @aA.size @aA.eq1))) (aN (aN @aA.eq2 (aN @aA.lens @aA.vsets)) (aN (aN @aA.st_d @aA.st_nil) (aN @aA.st_own @aA.st_agg)))) (aN (aN (aN @aA.st_ptr (aN @aA.part @aA.put)) (aN (aN @aA.rset @aA.rfull) (aN @aA.get0 @aA.get1))) (aN (aN @aA.get2 (aN @aA.get3 @aA.get4)) (aN (aN @aA.get5 @aA.get6) (aN @aA.get7 @aA.sub0_8)))))))) (aN (aN (aN (aN (aN (aN (aN @bR.size (aN @bR.eq1 @bR.eq2)) (aN @bR.lens (aN @bR.vsets @bR.st_d))) (aN (aN @bR.st_nil (aN @bR.st_own @bR.st_agg)) (aN (aN @bR.st_ptr @bR.part) (aN @bR.put @bR.rset)))) (aN (aN (aN @bR.rfull (aN @bR.get0 @bR.get1)) (aN @bR.get2 (aN @bR.sub0_3 @bF.size))) (aN (aN @bF.eq1 (aN @bF.eq2 @bF.lens)) (aN (aN @bF.vsets @bF.st_d) (aN @bF.st_nil @bF.st_own))))) (aN (aN (aN (aN @bF.st_agg (aN @bF.st_ptr @bF.part)) (aN @bF.put (aN @bF.rset @bF.rfull))) (aN (aN @bF.get0 (aN @bF.get1 @bF.get2)) (aN (aN @bF.get3 @bF.get4) (aN @bF.get5 @bF.get6)))) (aN (aN (aN @bF.get7 (aN @bF.get8 @bF.get9)) (aN @bF.get10 (aN @bF.get11 @bF.get12))) (aN (aN @bF.get13 (aN @bF.get14 @bF.sub0_15)) (aN (aN @bF.sub5_3 @aX.size) (aN @aX.eq1 @aX.eq2)))))) (aN (aN (aN (aN (aN @aX.lens (aN @aX.vsets @aX.st_d)) (aN @aX.st_nil (aN @aX.st_own @aX.st_agg))) (aN (aN @aX.st_ptr (aN @aX.part @aX.put)) (aN (aN @aX.rset @aX.rfull) (aN @aX.get0 @aX.get1)))) (aN (aN (aN @aX.get2 (aN @aX.get3 @aX.get4)) (aN @aX.get5 (aN @aX.get6 @aX.get7))) (aN (aN @aX.get8 (aN @aX.sub0_9 @bE.size)) (aN (aN @bE.eq1 @bE.eq2) (aN @bE.lens @bE.vsets))))) (aN (aN (aN (aN @bE.st_d (aN @bE.st_nil @bE.st_own)) (aN @bE.st_agg (aN @bE.st_ptr @bE.part))) (aN (aN @bE.put (aN @bE.rset @bE.rfull)) (aN (aN @bE.get0 @bE.get1) (aN @bE.sub0_2 @bP.size)))) (aN (aN (aN @bP.eq1 (aN @bP.eq2 @bP.lens)) (aN (aN @bP.vsets @bP.st_d) (aN @bP.st_nil @bP.st_own))) (aN (aN @bP.st_agg (aN @bP.st_ptr @bP.part)) (aN (aN @bP.put @bP.rset) (aN @bP.rfull @bP.get0))))))) (aN (aN (aN (aN (aN (aN @bP.get1 (aN @bP.get2 @bP.get3)) (aN @bP.get4 (aN @bP.get5 @bP.get6))) (aN (aN @bP.get7 (aN @bP.get8 @bP.sub0_9)) (aN (aN @bS.size @bS.eq1) (aN @bS.eq2 @bS.lens)))) (aN (aN (aN @bS.vsets (aN @bS.st_d @bS.st_nil)) (aN @bS.st_own (aN @bS.st_agg @bS.st_ptr))) (aN (aN @bS.part (aN @bS.put @bS.rset)) (aN (aN @bS.rfull @bS.get0) (aN @bS.get1 @bS.get2))))) (aN (aN (aN (aN @bS.sub0_3 (aN @aB.size @aB.eq1)) (aN @aB.eq2 (aN @aB.lens @aB.vsets))) (aN (aN @aB.st_d (aN @aB.st_nil @aB.st_own)) (aN (aN @aB.st_agg @aB.st_ptr) (aN @aB.part @aB.put)))) (aN (aN (aN @aB.rset (aN @aB.rfull @aB.get0)) (aN @aB.get1 (aN @aB.get2 @aB.get3))) (aN (aN @aB.get4 (aN @aB.get5 @aB.get6)) (aN (aN @aB.get7 @aB.get8) (aN @aB.get9 @aB.get10)))))) (aN (aN (aN (aN (aN @aB.get11 (aN @aB.get12 @aB.get13)) (aN @aB.get14 (aN @aB.get15 @aB.get16))) (aN (aN @aB.get17 (aN @aB.get18 @aB.sub0_19)) (aN (aN @aB.sub0_15 @aB.sub5_3) (aN @aJ0 @aFZ)))) (aN (aN (aN @aGl (aN @aJG @aGC)) (aN @aHT (aN @aJh @aHI))) (aN (aN @aHv (aN @aHr @aFr)) (aN (aN @aHW @aIC) (aN @aF4 @aGN))))) (aN (aN (aN (aN @aG2 (aN @aH6 @aFj)) (aN @aKy (aN @aHf @aHg))) (aN (aN @aHl (aN @aJ5 @aFH)) (aN (aN @WJ @N9) (aN @LU @SJ)))) (aN (aN (aN @PK (aN @MS @Q9)) (aN (aN @T6 @RX) (aN @RE @MM))) (aN (aN @O9 (aN @PS @JB)) (aN (aN @ST @Q5) (aN @LF @WO))))))))
def DQ:=aN (aN (aN (aN (aN @bL.len (aN @bO.len @bU.len)) (aN @bH.len (aN @cE.len @bW.len))) (aN (aN @bD.len (aN @bA.len @bX.len)) (aN (aN @bZ.len @aA.len) (aN @bR.len @bF.len)))) (aN (aN (aN @aX.len (aN @bE.len @bP.len)) (aN (aN @bS.len @aB.len) (aN @bL.cells_mk @bO.cells_mk))) (aN (aN @bU.cells_mk (aN @bH.cells_mk @cE.cells_mk)) (aN (aN @bW.cells_mk @bD.cells_mk) (aN @bA.cells_mk @bX.cells_mk))))) (aN (aN (aN (aN @bZ.cells_mk (aN @aA.cells_mk @bR.cells_mk)) (aN @bF.cells_mk (aN @aX.cells_mk @bE.cells_mk))) (aN (aN @bP.cells_mk (aN @bS.cells_mk @aB.cells_mk)) (aN (aN @bL.sized @bO.sized) (aN @bU.sized @bH.sized)))) (aN (aN (aN @cE.sized (aN @bW.sized @bD.sized)) (aN (aN @bA.sized @bX.sized) (aN @bZ.sized @aA.sized))) (aN (aN @bR.sized (aN @bF.sized @aX.sized)) (aN (aN @bE.sized @bP.sized) (aN @bS.sized @aB.sized)))))
def DP:=aN @Option.some.injEq (aN @Bool.and_true @List.cons_ne_nil)
end Go.Proofs.Ytfhebiceipgdmaa
