/- The table. Printed by a program. -/
import Derived.Test.YtfhebiceipgdmaaVmH
import Derived.Test.YtfhebiceipgdmaaCode1
import Derived.Test.YtfhebiceipgdmaaCode2
set_option linter.unusedVariables false
set_option linter.unusedSimpArgs false
namespace Go.Proofs.Ytfhebiceipgdmaa
open Vm
open Go.RowKit
def TL:List (Nat × Option Def):=[(44,some (.code aKg)),(48,some (.code aJN)),(22,some (.code aKm)),(45,some (.code aJ9)),(50,some (.code aJy)),(73,some (.code aJc)),(49,some (.code aJ7)),(74,some (.code aJI)),(51,some (.code aKb)),(47,some (.code aIh)),(19,some (.code aKu)),(25,some (.code aJJ)),(46,some (.code aJA)),(17,some (.code aJV)),(14,some (.code aJ2)),(15,some (.code aJS)),(16,some (.code aJb)),(21,some (.code aKd)),(91,some (.code aKv)),(115,some (.code aHe)),(121,some (.code aHs)),(116,some (.code aHp)),(109,some (.code aHv)),(93,some (.code aKf)),(92,some (.code aJt)),(110,some (.code aHi)),(95,some (.code aJY)),(94,some (.code aJH)),(96,some (.code aJf)),(98,some (.code aJ1)),(97,some (.code aJl)),(99,some (.code aJQ)),(100,some (.code aHt)),(75,some (.code aKh)),(76,some (.code aKc)),(77,some (.code aJr)),(78,some (.code aJw)),(57,some (.code aJg)),(59,some (.code aJu)),(66,some (.code aJj)),(117,some (.code aHn)),(111,some (.code aHy)),(101,some (.code aHz)),(79,some (.code aJd)),(58,some (.code aKj)),(80,some (.code aJo)),(60,some (.code aKa)),(102,some (.code aHr)),(82,some (.code aJz)),(81,some (.code aJv)),(61,some (.code aJa)),(29,some (.code aKr)),(12,some (.code aJK)),(13,some (.code aJ8))]
def TT:AC:=fun f=>lk TL none f
structure bJ where
 Name:ByteArray
 Order:Int
 Currency:Int
 Rest:List Int
 Feasts:List Int
 Shut:List Int
 deriving Inhabited
def bJ.cells (x:bJ):List D:=[.str x.Name,.int .i64 x.Order,.int .i64 x.Currency,.sl (cM cI x.Rest),.sl (cM cI x.Feasts),.sl (cM cI x.Shut)]
theorem bJ.sized (xs:List bJ):sized 6 (cM bJ.cells xs) = true:=fA _ _ (fun x=>by rfl) xs
theorem bJ.len (x:bJ):x.cells.length = 6:=rfl
theorem bJ.size {β:Type} (x:bJ) (y:Option β):gP x.cells 6 y = y:=rfl
theorem bJ.eq1 {β:Type} (x:bJ) (ks:List Nat) (ys:List V) (k:Bool→Option β):dG ks (aC x.cells) ys k = dG ks [.d (.str x.Name),.d (.int .i64 x.Order),.d (.int .i64 x.Currency),.d (.sl (cM cI x.Rest)),.d (.sl (cM cI x.Feasts)),.d (.sl (cM cI x.Shut))] ys k:=rfl
theorem bJ.eq2 {β:Type} (x:bJ) (ks:List Nat) (ys:List V) (k:Bool→Option β):dG ks ys (aC x.cells) k = dG ks ys [.d (.str x.Name),.d (.int .i64 x.Order),.d (.int .i64 x.Currency),.d (.sl (cM cI x.Rest)),.d (.sl (cM cI x.Feasts)),.d (.sl (cM cI x.Shut))] k:=rfl
theorem bJ.lens {β:Type} (x:bJ) (y:Option β):kW (aC x.cells) 6 y = y:=rfl
theorem bJ.vsets {β:Type} (x:bJ) (z:List V) (o:Nat) (k:List V→Option β):dA z o (aC x.cells) k = dA z o [.d (.str x.Name),.d (.int .i64 x.Order),.d (.int .i64 x.Currency),.d (.sl (cM cI x.Rest)),.d (.sl (cM cI x.Feasts)),.d (.sl (cM cI x.Shut))] k:=rfl
theorem bJ.st_d {β:Type} (x:bJ) (y:D) (sz off id:Nat) (kw:V→List (Nat × Option aX)→Option β):aP sz off id (.d y) (some (.box (aC x.cells))) kw = aP sz off id (.d y) (some (.box [.d (.str x.Name),.d (.int .i64 x.Order),.d (.int .i64 x.Currency),.d (.sl (cM cI x.Rest)),.d (.sl (cM cI x.Feasts)),.d (.sl (cM cI x.Shut))])) kw:=rfl
theorem bJ.st_agg {β:Type} (x:bJ) (y:List V) (sz off id:Nat) (kw:V→List (Nat × Option aX)→Option β):aP sz off id (.agg y) (some (.box (aC x.cells))) kw = aP sz off id (.agg y) (some (.box [.d (.str x.Name),.d (.int .i64 x.Order),.d (.int .i64 x.Currency),.d (.sl (cM cI x.Rest)),.d (.sl (cM cI x.Feasts)),.d (.sl (cM cI x.Shut))])) kw:=rfl
theorem bJ.part {β:Type} (x:bJ) (off id:Nat) (b:Option aX) (kw:V→List (Nat × Option aX)→Option β):aP 6 (off + 1) id (cW x.cells) b kw = aP 6 (off + 1) id (.agg [.d (.str x.Name),.d (.int .i64 x.Order),.d (.int .i64 x.Currency),.d (.sl (cM cI x.Rest)),.d (.sl (cM cI x.Feasts)),.d (.sl (cM cI x.Shut))]) b kw:=rfl
theorem bJ.put {β:Type} (x:bJ) (id:Nat) (cs:List V) (hc:cs.length = 6) (kw:V→List (Nat × Option aX)→Option β):aP 6 0 id (cW x.cells) (some (.box cs)) kw = kw .any [(id,some (.box (aC x.cells)))]:=cN 6 id _ rfl cs hc
theorem bJ.rset {β:Type} (x:bJ) (off:Nat) (d:D) (ds:List D) (n:Nat) (k:List D→Option β):bH x.cells off (d :: ds) n k = bH [.str x.Name,.int .i64 x.Order,.int .i64 x.Currency,.sl (cM cI x.Rest),.sl (cM cI x.Feasts),.sl (cM cI x.Shut)] off (d :: ds) n k:=rfl
theorem bJ.rfull {β:Type} (x y:bJ) (k:List D→Option β):bH x.cells 0 y.cells 6 k = k y.cells:=by unfold bH; exact (if_pos ⟨rfl,Nat.le_refl _⟩).trans rfl
theorem bJ.get0 {β:Type} (x:bJ) (k:D→Option β):bK x.cells 0 k = k (.str x.Name):=rfl
theorem bJ.get1 {β:Type} (x:bJ) (k:D→Option β):bK x.cells 1 k = k (.int .i64 x.Order):=rfl
theorem bJ.get2 {β:Type} (x:bJ) (k:D→Option β):bK x.cells 2 k = k (.int .i64 x.Currency):=rfl
theorem bJ.get3 {β:Type} (x:bJ) (k:D→Option β):bK x.cells 3 k = k (.sl (cM cI x.Rest)):=rfl
theorem bJ.get4 {β:Type} (x:bJ) (k:D→Option β):bK x.cells 4 k = k (.sl (cM cI x.Feasts)):=rfl
theorem bJ.get5 {β:Type} (x:bJ) (k:D→Option β):bK x.cells 5 k = k (.sl (cM cI x.Shut)):=rfl
theorem bJ.sub0_6 {β:Type} (x:bJ) (k:List D→Option β):iG x.cells 0 6 k = k x.cells:=rfl
theorem bJ.cells_mk (f0:ByteArray) (f1:Int) (f2:Int) (f3:List Int) (f4:List Int) (f5:List Int):bJ.cells (bJ.mk f0 f1 f2 f3 f4 f5) = [.str f0,.int .i64 f1,.int .i64 f2,.sl (cM cI f3),.sl (cM cI f4),.sl (cM cI f5)]:=rfl
structure bN where
 Grade:Int
 deriving Inhabited
def bN.cells (x:bN):List D:=[.int .i64 x.Grade]
theorem bN.sized (xs:List bN):sized 1 (cM bN.cells xs) = true:=fA _ _ (fun x=>by rfl) xs
theorem bN.len (x:bN):x.cells.length = 1:=rfl
theorem bN.size {β:Type} (x:bN) (y:Option β):gP x.cells 1 y = y:=rfl
theorem bN.eq1 {β:Type} (x:bN) (ks:List Nat) (ys:List V) (k:Bool→Option β):dG ks (aC x.cells) ys k = dG ks [.d (.int .i64 x.Grade)] ys k:=rfl
theorem bN.eq2 {β:Type} (x:bN) (ks:List Nat) (ys:List V) (k:Bool→Option β):dG ks ys (aC x.cells) k = dG ks ys [.d (.int .i64 x.Grade)] k:=rfl
theorem bN.lens {β:Type} (x:bN) (y:Option β):kW (aC x.cells) 1 y = y:=rfl
theorem bN.vsets {β:Type} (x:bN) (z:List V) (o:Nat) (k:List V→Option β):dA z o (aC x.cells) k = dA z o [.d (.int .i64 x.Grade)] k:=rfl
theorem bN.st_d {β:Type} (x:bN) (y:D) (sz off id:Nat) (kw:V→List (Nat × Option aX)→Option β):aP sz off id (.d y) (some (.box (aC x.cells))) kw = aP sz off id (.d y) (some (.box [.d (.int .i64 x.Grade)])) kw:=rfl
theorem bN.st_agg {β:Type} (x:bN) (y:List V) (sz off id:Nat) (kw:V→List (Nat × Option aX)→Option β):aP sz off id (.agg y) (some (.box (aC x.cells))) kw = aP sz off id (.agg y) (some (.box [.d (.int .i64 x.Grade)])) kw:=rfl
theorem bN.part {β:Type} (x:bN) (off id:Nat) (b:Option aX) (kw:V→List (Nat × Option aX)→Option β):aP 1 (off + 1) id (cW x.cells) b kw = aP 1 (off + 1) id (.agg [.d (.int .i64 x.Grade)]) b kw:=rfl
theorem bN.put {β:Type} (x:bN) (id:Nat) (cs:List V) (hc:cs.length = 1) (kw:V→List (Nat × Option aX)→Option β):aP 1 0 id (cW x.cells) (some (.box cs)) kw = kw .any [(id,some (.box (aC x.cells)))]:=cN 1 id _ rfl cs hc
theorem bN.rset {β:Type} (x:bN) (off:Nat) (d:D) (ds:List D) (n:Nat) (k:List D→Option β):bH x.cells off (d :: ds) n k = bH [.int .i64 x.Grade] off (d :: ds) n k:=rfl
theorem bN.rfull {β:Type} (x y:bN) (k:List D→Option β):bH x.cells 0 y.cells 1 k = k y.cells:=by unfold bH; exact (if_pos ⟨rfl,Nat.le_refl _⟩).trans rfl
theorem bN.get0 {β:Type} (x:bN) (k:D→Option β):bK x.cells 0 k = k (.int .i64 x.Grade):=rfl
theorem bN.sub0_1 {β:Type} (x:bN) (k:List D→Option β):iG x.cells 0 1 k = k x.cells:=rfl
theorem bN.cells_mk (f0:Int):bN.cells (bN.mk f0) = [.int .i64 f0]:=rfl
structure bU where
 Name:ByteArray
 City:Int
 Group:Int
 deriving Inhabited
def bU.cells (x:bU):List D:=[.str x.Name,.int .i64 x.City,.int .i64 x.Group]
theorem bU.sized (xs:List bU):sized 3 (cM bU.cells xs) = true:=fA _ _ (fun x=>by rfl) xs
theorem bU.len (x:bU):x.cells.length = 3:=rfl
theorem bU.size {β:Type} (x:bU) (y:Option β):gP x.cells 3 y = y:=rfl
theorem bU.eq1 {β:Type} (x:bU) (ks:List Nat) (ys:List V) (k:Bool→Option β):dG ks (aC x.cells) ys k = dG ks [.d (.str x.Name),.d (.int .i64 x.City),.d (.int .i64 x.Group)] ys k:=rfl
theorem bU.eq2 {β:Type} (x:bU) (ks:List Nat) (ys:List V) (k:Bool→Option β):dG ks ys (aC x.cells) k = dG ks ys [.d (.str x.Name),.d (.int .i64 x.City),.d (.int .i64 x.Group)] k:=rfl
theorem bU.lens {β:Type} (x:bU) (y:Option β):kW (aC x.cells) 3 y = y:=rfl
theorem bU.vsets {β:Type} (x:bU) (z:List V) (o:Nat) (k:List V→Option β):dA z o (aC x.cells) k = dA z o [.d (.str x.Name),.d (.int .i64 x.City),.d (.int .i64 x.Group)] k:=rfl
theorem bU.st_d {β:Type} (x:bU) (y:D) (sz off id:Nat) (kw:V→List (Nat × Option aX)→Option β):aP sz off id (.d y) (some (.box (aC x.cells))) kw = aP sz off id (.d y) (some (.box [.d (.str x.Name),.d (.int .i64 x.City),.d (.int .i64 x.Group)])) kw:=rfl
theorem bU.st_agg {β:Type} (x:bU) (y:List V) (sz off id:Nat) (kw:V→List (Nat × Option aX)→Option β):aP sz off id (.agg y) (some (.box (aC x.cells))) kw = aP sz off id (.agg y) (some (.box [.d (.str x.Name),.d (.int .i64 x.City),.d (.int .i64 x.Group)])) kw:=rfl
theorem bU.part {β:Type} (x:bU) (off id:Nat) (b:Option aX) (kw:V→List (Nat × Option aX)→Option β):aP 3 (off + 1) id (cW x.cells) b kw = aP 3 (off + 1) id (.agg [.d (.str x.Name),.d (.int .i64 x.City),.d (.int .i64 x.Group)]) b kw:=rfl
theorem bU.put {β:Type} (x:bU) (id:Nat) (cs:List V) (hc:cs.length = 3) (kw:V→List (Nat × Option aX)→Option β):aP 3 0 id (cW x.cells) (some (.box cs)) kw = kw .any [(id,some (.box (aC x.cells)))]:=cN 3 id _ rfl cs hc
theorem bU.rset {β:Type} (x:bU) (off:Nat) (d:D) (ds:List D) (n:Nat) (k:List D→Option β):bH x.cells off (d :: ds) n k = bH [.str x.Name,.int .i64 x.City,.int .i64 x.Group] off (d :: ds) n k:=rfl
theorem bU.rfull {β:Type} (x y:bU) (k:List D→Option β):bH x.cells 0 y.cells 3 k = k y.cells:=by unfold bH; exact (if_pos ⟨rfl,Nat.le_refl _⟩).trans rfl
theorem bU.get0 {β:Type} (x:bU) (k:D→Option β):bK x.cells 0 k = k (.str x.Name):=rfl
theorem bU.get1 {β:Type} (x:bU) (k:D→Option β):bK x.cells 1 k = k (.int .i64 x.City):=rfl
theorem bU.get2 {β:Type} (x:bU) (k:D→Option β):bK x.cells 2 k = k (.int .i64 x.Group):=rfl
theorem bU.sub0_3 {β:Type} (x:bU) (k:List D→Option β):iG x.cells 0 3 k = k x.cells:=rfl
theorem bU.cells_mk (f0:ByteArray) (f1:Int) (f2:Int):bU.cells (bU.mk f0 f1 f2) = [.str f0,.int .i64 f1,.int .i64 f2]:=rfl
structure bE where
 Ask:Int
 By:Int
 Whole:Bool
 deriving Inhabited
def bE.cells (x:bE):List D:=[.int .i64 x.Ask,.int .i64 x.By,.bool x.Whole]
theorem bE.sized (xs:List bE):sized 3 (cM bE.cells xs) = true:=fA _ _ (fun x=>by rfl) xs
theorem bE.len (x:bE):x.cells.length = 3:=rfl
theorem bE.size {β:Type} (x:bE) (y:Option β):gP x.cells 3 y = y:=rfl
theorem bE.eq1 {β:Type} (x:bE) (ks:List Nat) (ys:List V) (k:Bool→Option β):dG ks (aC x.cells) ys k = dG ks [.d (.int .i64 x.Ask),.d (.int .i64 x.By),.d (.bool x.Whole)] ys k:=rfl
theorem bE.eq2 {β:Type} (x:bE) (ks:List Nat) (ys:List V) (k:Bool→Option β):dG ks ys (aC x.cells) k = dG ks ys [.d (.int .i64 x.Ask),.d (.int .i64 x.By),.d (.bool x.Whole)] k:=rfl
theorem bE.lens {β:Type} (x:bE) (y:Option β):kW (aC x.cells) 3 y = y:=rfl
theorem bE.vsets {β:Type} (x:bE) (z:List V) (o:Nat) (k:List V→Option β):dA z o (aC x.cells) k = dA z o [.d (.int .i64 x.Ask),.d (.int .i64 x.By),.d (.bool x.Whole)] k:=rfl
theorem bE.st_d {β:Type} (x:bE) (y:D) (sz off id:Nat) (kw:V→List (Nat × Option aX)→Option β):aP sz off id (.d y) (some (.box (aC x.cells))) kw = aP sz off id (.d y) (some (.box [.d (.int .i64 x.Ask),.d (.int .i64 x.By),.d (.bool x.Whole)])) kw:=rfl
theorem bE.st_agg {β:Type} (x:bE) (y:List V) (sz off id:Nat) (kw:V→List (Nat × Option aX)→Option β):aP sz off id (.agg y) (some (.box (aC x.cells))) kw = aP sz off id (.agg y) (some (.box [.d (.int .i64 x.Ask),.d (.int .i64 x.By),.d (.bool x.Whole)])) kw:=rfl
theorem bE.part {β:Type} (x:bE) (off id:Nat) (b:Option aX) (kw:V→List (Nat × Option aX)→Option β):aP 3 (off + 1) id (cW x.cells) b kw = aP 3 (off + 1) id (.agg [.d (.int .i64 x.Ask),.d (.int .i64 x.By),.d (.bool x.Whole)]) b kw:=rfl
theorem bE.put {β:Type} (x:bE) (id:Nat) (cs:List V) (hc:cs.length = 3) (kw:V→List (Nat × Option aX)→Option β):aP 3 0 id (cW x.cells) (some (.box cs)) kw = kw .any [(id,some (.box (aC x.cells)))]:=cN 3 id _ rfl cs hc
theorem bE.rset {β:Type} (x:bE) (off:Nat) (d:D) (ds:List D) (n:Nat) (k:List D→Option β):bH x.cells off (d :: ds) n k = bH [.int .i64 x.Ask,.int .i64 x.By,.bool x.Whole] off (d :: ds) n k:=rfl
theorem bE.rfull {β:Type} (x y:bE) (k:List D→Option β):bH x.cells 0 y.cells 3 k = k y.cells:=by unfold bH; exact (if_pos ⟨rfl,Nat.le_refl _⟩).trans rfl
theorem bE.get0 {β:Type} (x:bE) (k:D→Option β):bK x.cells 0 k = k (.int .i64 x.Ask):=rfl
theorem bE.get1 {β:Type} (x:bE) (k:D→Option β):bK x.cells 1 k = k (.int .i64 x.By):=rfl
theorem bE.get2 {β:Type} (x:bE) (k:D→Option β):bK x.cells 2 k = k (.bool x.Whole):=rfl
theorem bE.sub0_3 {β:Type} (x:bE) (k:List D→Option β):iG x.cells 0 3 k = k x.cells:=rfl
theorem bE.cells_mk (f0:Int) (f1:Int) (f2:Bool):bE.cells (bE.mk f0 f1 f2) = [.int .i64 f0,.int .i64 f1,.bool f2]:=rfl
structure b8 where
 Op:Int
 N:Int
 Args:List (List D)
 deriving Inhabited
def b8.cells (x:b8):List D:=[.int .i64 x.Op,.int .i64 x.N,.sl (cM cD x.Args)]
theorem b8.sized (xs:List b8):sized 3 (cM b8.cells xs) = true:=fA _ _ (fun x=>by rfl) xs
theorem b8.len (x:b8):x.cells.length = 3:=rfl
theorem b8.size {β:Type} (x:b8) (y:Option β):gP x.cells 3 y = y:=rfl
theorem b8.eq1 {β:Type} (x:b8) (ks:List Nat) (ys:List V) (k:Bool→Option β):dG ks (aC x.cells) ys k = dG ks [.d (.int .i64 x.Op),.d (.int .i64 x.N),.d (.sl (cM cD x.Args))] ys k:=rfl
theorem b8.eq2 {β:Type} (x:b8) (ks:List Nat) (ys:List V) (k:Bool→Option β):dG ks ys (aC x.cells) k = dG ks ys [.d (.int .i64 x.Op),.d (.int .i64 x.N),.d (.sl (cM cD x.Args))] k:=rfl
theorem b8.lens {β:Type} (x:b8) (y:Option β):kW (aC x.cells) 3 y = y:=rfl
theorem b8.vsets {β:Type} (x:b8) (z:List V) (o:Nat) (k:List V→Option β):dA z o (aC x.cells) k = dA z o [.d (.int .i64 x.Op),.d (.int .i64 x.N),.d (.sl (cM cD x.Args))] k:=rfl
theorem b8.st_d {β:Type} (x:b8) (y:D) (sz off id:Nat) (kw:V→List (Nat × Option aX)→Option β):aP sz off id (.d y) (some (.box (aC x.cells))) kw = aP sz off id (.d y) (some (.box [.d (.int .i64 x.Op),.d (.int .i64 x.N),.d (.sl (cM cD x.Args))])) kw:=rfl
theorem b8.st_agg {β:Type} (x:b8) (y:List V) (sz off id:Nat) (kw:V→List (Nat × Option aX)→Option β):aP sz off id (.agg y) (some (.box (aC x.cells))) kw = aP sz off id (.agg y) (some (.box [.d (.int .i64 x.Op),.d (.int .i64 x.N),.d (.sl (cM cD x.Args))])) kw:=rfl
theorem b8.part {β:Type} (x:b8) (off id:Nat) (b:Option aX) (kw:V→List (Nat × Option aX)→Option β):aP 3 (off + 1) id (cW x.cells) b kw = aP 3 (off + 1) id (.agg [.d (.int .i64 x.Op),.d (.int .i64 x.N),.d (.sl (cM cD x.Args))]) b kw:=rfl
theorem b8.put {β:Type} (x:b8) (id:Nat) (cs:List V) (hc:cs.length = 3) (kw:V→List (Nat × Option aX)→Option β):aP 3 0 id (cW x.cells) (some (.box cs)) kw = kw .any [(id,some (.box (aC x.cells)))]:=cN 3 id _ rfl cs hc
theorem b8.rset {β:Type} (x:b8) (off:Nat) (d:D) (ds:List D) (n:Nat) (k:List D→Option β):bH x.cells off (d :: ds) n k = bH [.int .i64 x.Op,.int .i64 x.N,.sl (cM cD x.Args)] off (d :: ds) n k:=rfl
theorem b8.rfull {β:Type} (x y:b8) (k:List D→Option β):bH x.cells 0 y.cells 3 k = k y.cells:=by unfold bH; exact (if_pos ⟨rfl,Nat.le_refl _⟩).trans rfl
theorem b8.get0 {β:Type} (x:b8) (k:D→Option β):bK x.cells 0 k = k (.int .i64 x.Op):=rfl
theorem b8.get1 {β:Type} (x:b8) (k:D→Option β):bK x.cells 1 k = k (.int .i64 x.N):=rfl
theorem b8.get2 {β:Type} (x:b8) (k:D→Option β):bK x.cells 2 k = k (.sl (cM cD x.Args)):=rfl
theorem b8.sub0_3 {β:Type} (x:b8) (k:List D→Option β):iG x.cells 0 3 k = k x.cells:=rfl
theorem b8.cells_mk (f0:Int) (f1:Int) (f2:List (List D)):b8.cells (b8.mk f0 f1 f2) = [.int .i64 f0,.int .i64 f1,.sl (cM cD f2)]:=rfl
structure bW where
 Ask:Int
 Term:b8
 deriving Inhabited
def bW.cells (x:bW):List D:=[.int .i64 x.Ask,.int .i64 x.Term.Op,.int .i64 x.Term.N,.sl (cM cD x.Term.Args)]
theorem bW.sized (xs:List bW):sized 4 (cM bW.cells xs) = true:=fA _ _ (fun x=>by rfl) xs
theorem bW.len (x:bW):x.cells.length = 4:=rfl
theorem bW.size {β:Type} (x:bW) (y:Option β):gP x.cells 4 y = y:=rfl
theorem bW.eq1 {β:Type} (x:bW) (ks:List Nat) (ys:List V) (k:Bool→Option β):dG ks (aC x.cells) ys k = dG ks [.d (.int .i64 x.Ask),.d (.int .i64 x.Term.Op),.d (.int .i64 x.Term.N),.d (.sl (cM cD x.Term.Args))] ys k:=rfl
theorem bW.eq2 {β:Type} (x:bW) (ks:List Nat) (ys:List V) (k:Bool→Option β):dG ks ys (aC x.cells) k = dG ks ys [.d (.int .i64 x.Ask),.d (.int .i64 x.Term.Op),.d (.int .i64 x.Term.N),.d (.sl (cM cD x.Term.Args))] k:=rfl
theorem bW.lens {β:Type} (x:bW) (y:Option β):kW (aC x.cells) 4 y = y:=rfl
theorem bW.vsets {β:Type} (x:bW) (z:List V) (o:Nat) (k:List V→Option β):dA z o (aC x.cells) k = dA z o [.d (.int .i64 x.Ask),.d (.int .i64 x.Term.Op),.d (.int .i64 x.Term.N),.d (.sl (cM cD x.Term.Args))] k:=rfl
theorem bW.st_d {β:Type} (x:bW) (y:D) (sz off id:Nat) (kw:V→List (Nat × Option aX)→Option β):aP sz off id (.d y) (some (.box (aC x.cells))) kw = aP sz off id (.d y) (some (.box [.d (.int .i64 x.Ask),.d (.int .i64 x.Term.Op),.d (.int .i64 x.Term.N),.d (.sl (cM cD x.Term.Args))])) kw:=rfl
theorem bW.st_agg {β:Type} (x:bW) (y:List V) (sz off id:Nat) (kw:V→List (Nat × Option aX)→Option β):aP sz off id (.agg y) (some (.box (aC x.cells))) kw = aP sz off id (.agg y) (some (.box [.d (.int .i64 x.Ask),.d (.int .i64 x.Term.Op),.d (.int .i64 x.Term.N),.d (.sl (cM cD x.Term.Args))])) kw:=rfl
theorem bW.part {β:Type} (x:bW) (off id:Nat) (b:Option aX) (kw:V→List (Nat × Option aX)→Option β):aP 4 (off + 1) id (cW x.cells) b kw = aP 4 (off + 1) id (.agg [.d (.int .i64 x.Ask),.d (.int .i64 x.Term.Op),.d (.int .i64 x.Term.N),.d (.sl (cM cD x.Term.Args))]) b kw:=rfl
theorem bW.put {β:Type} (x:bW) (id:Nat) (cs:List V) (hc:cs.length = 4) (kw:V→List (Nat × Option aX)→Option β):aP 4 0 id (cW x.cells) (some (.box cs)) kw = kw .any [(id,some (.box (aC x.cells)))]:=cN 4 id _ rfl cs hc
theorem bW.rset {β:Type} (x:bW) (off:Nat) (d:D) (ds:List D) (n:Nat) (k:List D→Option β):bH x.cells off (d :: ds) n k = bH [.int .i64 x.Ask,.int .i64 x.Term.Op,.int .i64 x.Term.N,.sl (cM cD x.Term.Args)] off (d :: ds) n k:=rfl
theorem bW.rfull {β:Type} (x y:bW) (k:List D→Option β):bH x.cells 0 y.cells 4 k = k y.cells:=by unfold bH; exact (if_pos ⟨rfl,Nat.le_refl _⟩).trans rfl
theorem bW.get0 {β:Type} (x:bW) (k:D→Option β):bK x.cells 0 k = k (.int .i64 x.Ask):=rfl
theorem bW.get1 {β:Type} (x:bW) (k:D→Option β):bK x.cells 1 k = k (.int .i64 x.Term.Op):=rfl
theorem bW.get2 {β:Type} (x:bW) (k:D→Option β):bK x.cells 2 k = k (.int .i64 x.Term.N):=rfl
theorem bW.get3 {β:Type} (x:bW) (k:D→Option β):bK x.cells 3 k = k (.sl (cM cD x.Term.Args)):=rfl
theorem bW.sub0_4 {β:Type} (x:bW) (k:List D→Option β):iG x.cells 0 4 k = k x.cells:=rfl
theorem bW.sub1_3 {β:Type} (x:bW) (k:List D→Option β):iG x.cells 1 3 k = k (b8.cells x.Term):=rfl
theorem bW.cells_mk (f0:Int) (f1:b8):bW.cells (bW.mk f0 f1) = [.int .i64 f0,.int .i64 f1.Op,.int .i64 f1.N,.sl (cM cD f1.Args)]:=rfl
structure bC where
 Name:ByteArray
 Accepts:Bool
 Choices:List bE
 Rules:List bW
 deriving Inhabited
def bC.cells (x:bC):List D:=[.str x.Name,.bool x.Accepts,.sl (cM bE.cells x.Choices),.sl (cM bW.cells x.Rules)]
theorem bC.sized (xs:List bC):sized 4 (cM bC.cells xs) = true:=fA _ _ (fun x=>by rfl) xs
theorem bC.len (x:bC):x.cells.length = 4:=rfl
theorem bC.size {β:Type} (x:bC) (y:Option β):gP x.cells 4 y = y:=rfl
theorem bC.eq1 {β:Type} (x:bC) (ks:List Nat) (ys:List V) (k:Bool→Option β):dG ks (aC x.cells) ys k = dG ks [.d (.str x.Name),.d (.bool x.Accepts),.d (.sl (cM bE.cells x.Choices)),.d (.sl (cM bW.cells x.Rules))] ys k:=rfl
theorem bC.eq2 {β:Type} (x:bC) (ks:List Nat) (ys:List V) (k:Bool→Option β):dG ks ys (aC x.cells) k = dG ks ys [.d (.str x.Name),.d (.bool x.Accepts),.d (.sl (cM bE.cells x.Choices)),.d (.sl (cM bW.cells x.Rules))] k:=rfl
theorem bC.lens {β:Type} (x:bC) (y:Option β):kW (aC x.cells) 4 y = y:=rfl
theorem bC.vsets {β:Type} (x:bC) (z:List V) (o:Nat) (k:List V→Option β):dA z o (aC x.cells) k = dA z o [.d (.str x.Name),.d (.bool x.Accepts),.d (.sl (cM bE.cells x.Choices)),.d (.sl (cM bW.cells x.Rules))] k:=rfl
theorem bC.st_d {β:Type} (x:bC) (y:D) (sz off id:Nat) (kw:V→List (Nat × Option aX)→Option β):aP sz off id (.d y) (some (.box (aC x.cells))) kw = aP sz off id (.d y) (some (.box [.d (.str x.Name),.d (.bool x.Accepts),.d (.sl (cM bE.cells x.Choices)),.d (.sl (cM bW.cells x.Rules))])) kw:=rfl
theorem bC.st_agg {β:Type} (x:bC) (y:List V) (sz off id:Nat) (kw:V→List (Nat × Option aX)→Option β):aP sz off id (.agg y) (some (.box (aC x.cells))) kw = aP sz off id (.agg y) (some (.box [.d (.str x.Name),.d (.bool x.Accepts),.d (.sl (cM bE.cells x.Choices)),.d (.sl (cM bW.cells x.Rules))])) kw:=rfl
theorem bC.part {β:Type} (x:bC) (off id:Nat) (b:Option aX) (kw:V→List (Nat × Option aX)→Option β):aP 4 (off + 1) id (cW x.cells) b kw = aP 4 (off + 1) id (.agg [.d (.str x.Name),.d (.bool x.Accepts),.d (.sl (cM bE.cells x.Choices)),.d (.sl (cM bW.cells x.Rules))]) b kw:=rfl
theorem bC.put {β:Type} (x:bC) (id:Nat) (cs:List V) (hc:cs.length = 4) (kw:V→List (Nat × Option aX)→Option β):aP 4 0 id (cW x.cells) (some (.box cs)) kw = kw .any [(id,some (.box (aC x.cells)))]:=cN 4 id _ rfl cs hc
theorem bC.rset {β:Type} (x:bC) (off:Nat) (d:D) (ds:List D) (n:Nat) (k:List D→Option β):bH x.cells off (d :: ds) n k = bH [.str x.Name,.bool x.Accepts,.sl (cM bE.cells x.Choices),.sl (cM bW.cells x.Rules)] off (d :: ds) n k:=rfl
theorem bC.rfull {β:Type} (x y:bC) (k:List D→Option β):bH x.cells 0 y.cells 4 k = k y.cells:=by unfold bH; exact (if_pos ⟨rfl,Nat.le_refl _⟩).trans rfl
theorem bC.get0 {β:Type} (x:bC) (k:D→Option β):bK x.cells 0 k = k (.str x.Name):=rfl
theorem bC.get1 {β:Type} (x:bC) (k:D→Option β):bK x.cells 1 k = k (.bool x.Accepts):=rfl
theorem bC.get2 {β:Type} (x:bC) (k:D→Option β):bK x.cells 2 k = k (.sl (cM bE.cells x.Choices)):=rfl
theorem bC.get3 {β:Type} (x:bC) (k:D→Option β):bK x.cells 3 k = k (.sl (cM bW.cells x.Rules)):=rfl
theorem bC.sub0_4 {β:Type} (x:bC) (k:List D→Option β):iG x.cells 0 4 k = k x.cells:=rfl
theorem bC.cells_mk (f0:ByteArray) (f1:Bool) (f2:List bE) (f3:List bW):bC.cells (bC.mk f0 f1 f2 f3) = [.str f0,.bool f1,.sl (cM bE.cells f2),.sl (cM bW.cells f3)]:=rfl
structure bA where
 From:Int
 To:Int
 Days:Int
 deriving Inhabited
def bA.cells (x:bA):List D:=[.int .i64 x.From,.int .i64 x.To,.int .i64 x.Days]
theorem bA.sized (xs:List bA):sized 3 (cM bA.cells xs) = true:=fA _ _ (fun x=>by rfl) xs
theorem bA.len (x:bA):x.cells.length = 3:=rfl
theorem bA.size {β:Type} (x:bA) (y:Option β):gP x.cells 3 y = y:=rfl
theorem bA.eq1 {β:Type} (x:bA) (ks:List Nat) (ys:List V) (k:Bool→Option β):dG ks (aC x.cells) ys k = dG ks [.d (.int .i64 x.From),.d (.int .i64 x.To),.d (.int .i64 x.Days)] ys k:=rfl
theorem bA.eq2 {β:Type} (x:bA) (ks:List Nat) (ys:List V) (k:Bool→Option β):dG ks ys (aC x.cells) k = dG ks ys [.d (.int .i64 x.From),.d (.int .i64 x.To),.d (.int .i64 x.Days)] k:=rfl
theorem bA.lens {β:Type} (x:bA) (y:Option β):kW (aC x.cells) 3 y = y:=rfl
theorem bA.vsets {β:Type} (x:bA) (z:List V) (o:Nat) (k:List V→Option β):dA z o (aC x.cells) k = dA z o [.d (.int .i64 x.From),.d (.int .i64 x.To),.d (.int .i64 x.Days)] k:=rfl
theorem bA.st_d {β:Type} (x:bA) (y:D) (sz off id:Nat) (kw:V→List (Nat × Option aX)→Option β):aP sz off id (.d y) (some (.box (aC x.cells))) kw = aP sz off id (.d y) (some (.box [.d (.int .i64 x.From),.d (.int .i64 x.To),.d (.int .i64 x.Days)])) kw:=rfl
theorem bA.st_agg {β:Type} (x:bA) (y:List V) (sz off id:Nat) (kw:V→List (Nat × Option aX)→Option β):aP sz off id (.agg y) (some (.box (aC x.cells))) kw = aP sz off id (.agg y) (some (.box [.d (.int .i64 x.From),.d (.int .i64 x.To),.d (.int .i64 x.Days)])) kw:=rfl
theorem bA.part {β:Type} (x:bA) (off id:Nat) (b:Option aX) (kw:V→List (Nat × Option aX)→Option β):aP 3 (off + 1) id (cW x.cells) b kw = aP 3 (off + 1) id (.agg [.d (.int .i64 x.From),.d (.int .i64 x.To),.d (.int .i64 x.Days)]) b kw:=rfl
theorem bA.put {β:Type} (x:bA) (id:Nat) (cs:List V) (hc:cs.length = 3) (kw:V→List (Nat × Option aX)→Option β):aP 3 0 id (cW x.cells) (some (.box cs)) kw = kw .any [(id,some (.box (aC x.cells)))]:=cN 3 id _ rfl cs hc
theorem bA.rset {β:Type} (x:bA) (off:Nat) (d:D) (ds:List D) (n:Nat) (k:List D→Option β):bH x.cells off (d :: ds) n k = bH [.int .i64 x.From,.int .i64 x.To,.int .i64 x.Days] off (d :: ds) n k:=rfl
theorem bA.rfull {β:Type} (x y:bA) (k:List D→Option β):bH x.cells 0 y.cells 3 k = k y.cells:=by unfold bH; exact (if_pos ⟨rfl,Nat.le_refl _⟩).trans rfl
theorem bA.get0 {β:Type} (x:bA) (k:D→Option β):bK x.cells 0 k = k (.int .i64 x.From):=rfl
theorem bA.get1 {β:Type} (x:bA) (k:D→Option β):bK x.cells 1 k = k (.int .i64 x.To):=rfl
theorem bA.get2 {β:Type} (x:bA) (k:D→Option β):bK x.cells 2 k = k (.int .i64 x.Days):=rfl
theorem bA.sub0_3 {β:Type} (x:bA) (k:List D→Option β):iG x.cells 0 3 k = k x.cells:=rfl
theorem bA.cells_mk (f0:Int) (f1:Int) (f2:Int):bA.cells (bA.mk f0 f1 f2) = [.int .i64 f0,.int .i64 f1,.int .i64 f2]:=rfl
structure bV where
 From:Int
 To:Int
 Num:Int
 Den:Int
 Since:Int
 deriving Inhabited
def bV.cells (x:bV):List D:=[.int .i64 x.From,.int .i64 x.To,.int .i64 x.Num,.int .i64 x.Den,.int .i64 x.Since]
theorem bV.sized (xs:List bV):sized 5 (cM bV.cells xs) = true:=fA _ _ (fun x=>by rfl) xs
theorem bV.len (x:bV):x.cells.length = 5:=rfl
theorem bV.size {β:Type} (x:bV) (y:Option β):gP x.cells 5 y = y:=rfl
theorem bV.eq1 {β:Type} (x:bV) (ks:List Nat) (ys:List V) (k:Bool→Option β):dG ks (aC x.cells) ys k = dG ks [.d (.int .i64 x.From),.d (.int .i64 x.To),.d (.int .i64 x.Num),.d (.int .i64 x.Den),.d (.int .i64 x.Since)] ys k:=rfl
theorem bV.eq2 {β:Type} (x:bV) (ks:List Nat) (ys:List V) (k:Bool→Option β):dG ks ys (aC x.cells) k = dG ks ys [.d (.int .i64 x.From),.d (.int .i64 x.To),.d (.int .i64 x.Num),.d (.int .i64 x.Den),.d (.int .i64 x.Since)] k:=rfl
theorem bV.lens {β:Type} (x:bV) (y:Option β):kW (aC x.cells) 5 y = y:=rfl
theorem bV.vsets {β:Type} (x:bV) (z:List V) (o:Nat) (k:List V→Option β):dA z o (aC x.cells) k = dA z o [.d (.int .i64 x.From),.d (.int .i64 x.To),.d (.int .i64 x.Num),.d (.int .i64 x.Den),.d (.int .i64 x.Since)] k:=rfl
theorem bV.st_d {β:Type} (x:bV) (y:D) (sz off id:Nat) (kw:V→List (Nat × Option aX)→Option β):aP sz off id (.d y) (some (.box (aC x.cells))) kw = aP sz off id (.d y) (some (.box [.d (.int .i64 x.From),.d (.int .i64 x.To),.d (.int .i64 x.Num),.d (.int .i64 x.Den),.d (.int .i64 x.Since)])) kw:=rfl
theorem bV.st_agg {β:Type} (x:bV) (y:List V) (sz off id:Nat) (kw:V→List (Nat × Option aX)→Option β):aP sz off id (.agg y) (some (.box (aC x.cells))) kw = aP sz off id (.agg y) (some (.box [.d (.int .i64 x.From),.d (.int .i64 x.To),.d (.int .i64 x.Num),.d (.int .i64 x.Den),.d (.int .i64 x.Since)])) kw:=rfl
theorem bV.part {β:Type} (x:bV) (off id:Nat) (b:Option aX) (kw:V→List (Nat × Option aX)→Option β):aP 5 (off + 1) id (cW x.cells) b kw = aP 5 (off + 1) id (.agg [.d (.int .i64 x.From),.d (.int .i64 x.To),.d (.int .i64 x.Num),.d (.int .i64 x.Den),.d (.int .i64 x.Since)]) b kw:=rfl
theorem bV.put {β:Type} (x:bV) (id:Nat) (cs:List V) (hc:cs.length = 5) (kw:V→List (Nat × Option aX)→Option β):aP 5 0 id (cW x.cells) (some (.box cs)) kw = kw .any [(id,some (.box (aC x.cells)))]:=cN 5 id _ rfl cs hc
theorem bV.rset {β:Type} (x:bV) (off:Nat) (d:D) (ds:List D) (n:Nat) (k:List D→Option β):bH x.cells off (d :: ds) n k = bH [.int .i64 x.From,.int .i64 x.To,.int .i64 x.Num,.int .i64 x.Den,.int .i64 x.Since] off (d :: ds) n k:=rfl
theorem bV.rfull {β:Type} (x y:bV) (k:List D→Option β):bH x.cells 0 y.cells 5 k = k y.cells:=by unfold bH; exact (if_pos ⟨rfl,Nat.le_refl _⟩).trans rfl
theorem bV.get0 {β:Type} (x:bV) (k:D→Option β):bK x.cells 0 k = k (.int .i64 x.From):=rfl
theorem bV.get1 {β:Type} (x:bV) (k:D→Option β):bK x.cells 1 k = k (.int .i64 x.To):=rfl
theorem bV.get2 {β:Type} (x:bV) (k:D→Option β):bK x.cells 2 k = k (.int .i64 x.Num):=rfl
theorem bV.get3 {β:Type} (x:bV) (k:D→Option β):bK x.cells 3 k = k (.int .i64 x.Den):=rfl
theorem bV.get4 {β:Type} (x:bV) (k:D→Option β):bK x.cells 4 k = k (.int .i64 x.Since):=rfl
theorem bV.sub0_5 {β:Type} (x:bV) (k:List D→Option β):iG x.cells 0 5 k = k x.cells:=rfl
theorem bV.cells_mk (f0:Int) (f1:Int) (f2:Int) (f3:Int) (f4:Int):bV.cells (bV.mk f0 f1 f2 f3 f4) = [.int .i64 f0,.int .i64 f1,.int .i64 f2,.int .i64 f3,.int .i64 f4]:=rfl
structure bZ where
 Order:Int
 From:Int
 To:Int
 deriving Inhabited
def bZ.cells (x:bZ):List D:=[.int .i64 x.Order,.int .i64 x.From,.int .i64 x.To]
theorem bZ.sized (xs:List bZ):sized 3 (cM bZ.cells xs) = true:=fA _ _ (fun x=>by rfl) xs
theorem bZ.len (x:bZ):x.cells.length = 3:=rfl
theorem bZ.size {β:Type} (x:bZ) (y:Option β):gP x.cells 3 y = y:=rfl
theorem bZ.eq1 {β:Type} (x:bZ) (ks:List Nat) (ys:List V) (k:Bool→Option β):dG ks (aC x.cells) ys k = dG ks [.d (.int .i64 x.Order),.d (.int .i64 x.From),.d (.int .i64 x.To)] ys k:=rfl
theorem bZ.eq2 {β:Type} (x:bZ) (ks:List Nat) (ys:List V) (k:Bool→Option β):dG ks ys (aC x.cells) k = dG ks ys [.d (.int .i64 x.Order),.d (.int .i64 x.From),.d (.int .i64 x.To)] k:=rfl
theorem bZ.lens {β:Type} (x:bZ) (y:Option β):kW (aC x.cells) 3 y = y:=rfl
theorem bZ.vsets {β:Type} (x:bZ) (z:List V) (o:Nat) (k:List V→Option β):dA z o (aC x.cells) k = dA z o [.d (.int .i64 x.Order),.d (.int .i64 x.From),.d (.int .i64 x.To)] k:=rfl
theorem bZ.st_d {β:Type} (x:bZ) (y:D) (sz off id:Nat) (kw:V→List (Nat × Option aX)→Option β):aP sz off id (.d y) (some (.box (aC x.cells))) kw = aP sz off id (.d y) (some (.box [.d (.int .i64 x.Order),.d (.int .i64 x.From),.d (.int .i64 x.To)])) kw:=rfl
theorem bZ.st_agg {β:Type} (x:bZ) (y:List V) (sz off id:Nat) (kw:V→List (Nat × Option aX)→Option β):aP sz off id (.agg y) (some (.box (aC x.cells))) kw = aP sz off id (.agg y) (some (.box [.d (.int .i64 x.Order),.d (.int .i64 x.From),.d (.int .i64 x.To)])) kw:=rfl
theorem bZ.part {β:Type} (x:bZ) (off id:Nat) (b:Option aX) (kw:V→List (Nat × Option aX)→Option β):aP 3 (off + 1) id (cW x.cells) b kw = aP 3 (off + 1) id (.agg [.d (.int .i64 x.Order),.d (.int .i64 x.From),.d (.int .i64 x.To)]) b kw:=rfl
theorem bZ.put {β:Type} (x:bZ) (id:Nat) (cs:List V) (hc:cs.length = 3) (kw:V→List (Nat × Option aX)→Option β):aP 3 0 id (cW x.cells) (some (.box cs)) kw = kw .any [(id,some (.box (aC x.cells)))]:=cN 3 id _ rfl cs hc
theorem bZ.rset {β:Type} (x:bZ) (off:Nat) (d:D) (ds:List D) (n:Nat) (k:List D→Option β):bH x.cells off (d :: ds) n k = bH [.int .i64 x.Order,.int .i64 x.From,.int .i64 x.To] off (d :: ds) n k:=rfl
theorem bZ.rfull {β:Type} (x y:bZ) (k:List D→Option β):bH x.cells 0 y.cells 3 k = k y.cells:=by unfold bH; exact (if_pos ⟨rfl,Nat.le_refl _⟩).trans rfl
theorem bZ.get0 {β:Type} (x:bZ) (k:D→Option β):bK x.cells 0 k = k (.int .i64 x.Order):=rfl
theorem bZ.get1 {β:Type} (x:bZ) (k:D→Option β):bK x.cells 1 k = k (.int .i64 x.From):=rfl
theorem bZ.get2 {β:Type} (x:bZ) (k:D→Option β):bK x.cells 2 k = k (.int .i64 x.To):=rfl
theorem bZ.sub0_3 {β:Type} (x:bZ) (k:List D→Option β):iG x.cells 0 3 k = k x.cells:=rfl
theorem bZ.cells_mk (f0:Int) (f1:Int) (f2:Int):bZ.cells (bZ.mk f0 f1 f2) = [.int .i64 f0,.int .i64 f1,.int .i64 f2]:=rfl
structure aA where
 Currencies:List ByteArray
 Cities:List bJ
 Groups:List bN
 Firms:List bU
 Orders:List bC
 Usances:List bA
 Rates:List bV
 Halts:List bZ
 deriving Inhabited
def aA.cells (x:aA):List D:=[.sl (cM cS x.Currencies),.sl (cM bJ.cells x.Cities),.sl (cM bN.cells x.Groups),.sl (cM bU.cells x.Firms),.sl (cM bC.cells x.Orders),.sl (cM bA.cells x.Usances),.sl (cM bV.cells x.Rates),.sl (cM bZ.cells x.Halts)]
theorem aA.sized (xs:List aA):sized 8 (cM aA.cells xs) = true:=fA _ _ (fun x=>by rfl) xs
theorem aA.len (x:aA):x.cells.length = 8:=rfl
theorem aA.size {β:Type} (x:aA) (y:Option β):gP x.cells 8 y = y:=rfl
theorem aA.eq1 {β:Type} (x:aA) (ks:List Nat) (ys:List V) (k:Bool→Option β):dG ks (aC x.cells) ys k = dG ks [.d (.sl (cM cS x.Currencies)),.d (.sl (cM bJ.cells x.Cities)),.d (.sl (cM bN.cells x.Groups)),.d (.sl (cM bU.cells x.Firms)),.d (.sl (cM bC.cells x.Orders)),.d (.sl (cM bA.cells x.Usances)),.d (.sl (cM bV.cells x.Rates)),.d (.sl (cM bZ.cells x.Halts))] ys k:=rfl
theorem aA.eq2 {β:Type} (x:aA) (ks:List Nat) (ys:List V) (k:Bool→Option β):dG ks ys (aC x.cells) k = dG ks ys [.d (.sl (cM cS x.Currencies)),.d (.sl (cM bJ.cells x.Cities)),.d (.sl (cM bN.cells x.Groups)),.d (.sl (cM bU.cells x.Firms)),.d (.sl (cM bC.cells x.Orders)),.d (.sl (cM bA.cells x.Usances)),.d (.sl (cM bV.cells x.Rates)),.d (.sl (cM bZ.cells x.Halts))] k:=rfl
theorem aA.lens {β:Type} (x:aA) (y:Option β):kW (aC x.cells) 8 y = y:=rfl
theorem aA.vsets {β:Type} (x:aA) (z:List V) (o:Nat) (k:List V→Option β):dA z o (aC x.cells) k = dA z o [.d (.sl (cM cS x.Currencies)),.d (.sl (cM bJ.cells x.Cities)),.d (.sl (cM bN.cells x.Groups)),.d (.sl (cM bU.cells x.Firms)),.d (.sl (cM bC.cells x.Orders)),.d (.sl (cM bA.cells x.Usances)),.d (.sl (cM bV.cells x.Rates)),.d (.sl (cM bZ.cells x.Halts))] k:=rfl
theorem aA.st_d {β:Type} (x:aA) (y:D) (sz off id:Nat) (kw:V→List (Nat × Option aX)→Option β):aP sz off id (.d y) (some (.box (aC x.cells))) kw = aP sz off id (.d y) (some (.box [.d (.sl (cM cS x.Currencies)),.d (.sl (cM bJ.cells x.Cities)),.d (.sl (cM bN.cells x.Groups)),.d (.sl (cM bU.cells x.Firms)),.d (.sl (cM bC.cells x.Orders)),.d (.sl (cM bA.cells x.Usances)),.d (.sl (cM bV.cells x.Rates)),.d (.sl (cM bZ.cells x.Halts))])) kw:=rfl
theorem aA.st_nil {β:Type} (x:aA)  (sz off id:Nat) (kw:V→List (Nat × Option aX)→Option β):aP sz off id .nil (some (.box (aC x.cells))) kw = aP sz off id .nil (some (.box [.d (.sl (cM cS x.Currencies)),.d (.sl (cM bJ.cells x.Cities)),.d (.sl (cM bN.cells x.Groups)),.d (.sl (cM bU.cells x.Firms)),.d (.sl (cM bC.cells x.Orders)),.d (.sl (cM bA.cells x.Usances)),.d (.sl (cM bV.cells x.Rates)),.d (.sl (cM bZ.cells x.Halts))])) kw:=rfl
theorem aA.st_own {β:Type} (x:aA) (i v:Nat) (sz off id:Nat) (kw:V→List (Nat × Option aX)→Option β):aP sz off id (.own i v) (some (.box (aC x.cells))) kw = aP sz off id (.own i v) (some (.box [.d (.sl (cM cS x.Currencies)),.d (.sl (cM bJ.cells x.Cities)),.d (.sl (cM bN.cells x.Groups)),.d (.sl (cM bU.cells x.Firms)),.d (.sl (cM bC.cells x.Orders)),.d (.sl (cM bA.cells x.Usances)),.d (.sl (cM bV.cells x.Rates)),.d (.sl (cM bZ.cells x.Halts))])) kw:=rfl
theorem aA.st_agg {β:Type} (x:aA) (y:List V) (sz off id:Nat) (kw:V→List (Nat × Option aX)→Option β):aP sz off id (.agg y) (some (.box (aC x.cells))) kw = aP sz off id (.agg y) (some (.box [.d (.sl (cM cS x.Currencies)),.d (.sl (cM bJ.cells x.Cities)),.d (.sl (cM bN.cells x.Groups)),.d (.sl (cM bU.cells x.Firms)),.d (.sl (cM bC.cells x.Orders)),.d (.sl (cM bA.cells x.Usances)),.d (.sl (cM bV.cells x.Rates)),.d (.sl (cM bZ.cells x.Halts))])) kw:=rfl
theorem aA.st_ptr {β:Type} (x:aA) (i v:Nat) (sz off id:Nat) (kw:V→List (Nat × Option aX)→Option β):aP sz off id (.ptr i v) (some (.box (aC x.cells))) kw = aP sz off id (.ptr i v) (some (.box [.d (.sl (cM cS x.Currencies)),.d (.sl (cM bJ.cells x.Cities)),.d (.sl (cM bN.cells x.Groups)),.d (.sl (cM bU.cells x.Firms)),.d (.sl (cM bC.cells x.Orders)),.d (.sl (cM bA.cells x.Usances)),.d (.sl (cM bV.cells x.Rates)),.d (.sl (cM bZ.cells x.Halts))])) kw:=rfl
theorem aA.part {β:Type} (x:aA) (off id:Nat) (b:Option aX) (kw:V→List (Nat × Option aX)→Option β):aP 8 (off + 1) id (cW x.cells) b kw = aP 8 (off + 1) id (.agg [.d (.sl (cM cS x.Currencies)),.d (.sl (cM bJ.cells x.Cities)),.d (.sl (cM bN.cells x.Groups)),.d (.sl (cM bU.cells x.Firms)),.d (.sl (cM bC.cells x.Orders)),.d (.sl (cM bA.cells x.Usances)),.d (.sl (cM bV.cells x.Rates)),.d (.sl (cM bZ.cells x.Halts))]) b kw:=rfl
theorem aA.put {β:Type} (x:aA) (id:Nat) (cs:List V) (hc:cs.length = 8) (kw:V→List (Nat × Option aX)→Option β):aP 8 0 id (cW x.cells) (some (.box cs)) kw = kw .any [(id,some (.box (aC x.cells)))]:=cN 8 id _ rfl cs hc
theorem aA.rset {β:Type} (x:aA) (off:Nat) (d:D) (ds:List D) (n:Nat) (k:List D→Option β):bH x.cells off (d :: ds) n k = bH [.sl (cM cS x.Currencies),.sl (cM bJ.cells x.Cities),.sl (cM bN.cells x.Groups),.sl (cM bU.cells x.Firms),.sl (cM bC.cells x.Orders),.sl (cM bA.cells x.Usances),.sl (cM bV.cells x.Rates),.sl (cM bZ.cells x.Halts)] off (d :: ds) n k:=rfl
theorem aA.rfull {β:Type} (x y:aA) (k:List D→Option β):bH x.cells 0 y.cells 8 k = k y.cells:=by unfold bH; exact (if_pos ⟨rfl,Nat.le_refl _⟩).trans rfl
theorem aA.get0 {β:Type} (x:aA) (k:D→Option β):bK x.cells 0 k = k (.sl (cM cS x.Currencies)):=rfl
theorem aA.get1 {β:Type} (x:aA) (k:D→Option β):bK x.cells 1 k = k (.sl (cM bJ.cells x.Cities)):=rfl
theorem aA.get2 {β:Type} (x:aA) (k:D→Option β):bK x.cells 2 k = k (.sl (cM bN.cells x.Groups)):=rfl
theorem aA.get3 {β:Type} (x:aA) (k:D→Option β):bK x.cells 3 k = k (.sl (cM bU.cells x.Firms)):=rfl
theorem aA.get4 {β:Type} (x:aA) (k:D→Option β):bK x.cells 4 k = k (.sl (cM bC.cells x.Orders)):=rfl
theorem aA.get5 {β:Type} (x:aA) (k:D→Option β):bK x.cells 5 k = k (.sl (cM bA.cells x.Usances)):=rfl
theorem aA.get6 {β:Type} (x:aA) (k:D→Option β):bK x.cells 6 k = k (.sl (cM bV.cells x.Rates)):=rfl
theorem aA.get7 {β:Type} (x:aA) (k:D→Option β):bK x.cells 7 k = k (.sl (cM bZ.cells x.Halts)):=rfl
theorem aA.sub0_8 {β:Type} (x:aA) (k:List D→Option β):iG x.cells 0 8 k = k x.cells:=rfl
theorem aA.cells_mk (f0:List ByteArray) (f1:List bJ) (f2:List bN) (f3:List bU) (f4:List bC) (f5:List bA) (f6:List bV) (f7:List bZ):aA.cells (aA.mk f0 f1 f2 f3 f4 f5 f6 f7) = [.sl (cM cS f0),.sl (cM bJ.cells f1),.sl (cM bN.cells f2),.sl (cM bU.cells f3),.sl (cM bC.cells f4),.sl (cM bA.cells f5),.sl (cM bV.cells f6),.sl (cM bZ.cells f7)]:=rfl
structure bS where
 Kind:Int
 N:Int
 Unit:Int
 deriving Inhabited
def bS.cells (x:bS):List D:=[.int .i64 x.Kind,.int .i64 x.N,.int .i64 x.Unit]
theorem bS.sized (xs:List bS):sized 3 (cM bS.cells xs) = true:=fA _ _ (fun x=>by rfl) xs
theorem bS.len (x:bS):x.cells.length = 3:=rfl
theorem bS.size {β:Type} (x:bS) (y:Option β):gP x.cells 3 y = y:=rfl
theorem bS.eq1 {β:Type} (x:bS) (ks:List Nat) (ys:List V) (k:Bool→Option β):dG ks (aC x.cells) ys k = dG ks [.d (.int .i64 x.Kind),.d (.int .i64 x.N),.d (.int .i64 x.Unit)] ys k:=rfl
theorem bS.eq2 {β:Type} (x:bS) (ks:List Nat) (ys:List V) (k:Bool→Option β):dG ks ys (aC x.cells) k = dG ks ys [.d (.int .i64 x.Kind),.d (.int .i64 x.N),.d (.int .i64 x.Unit)] k:=rfl
theorem bS.lens {β:Type} (x:bS) (y:Option β):kW (aC x.cells) 3 y = y:=rfl
theorem bS.vsets {β:Type} (x:bS) (z:List V) (o:Nat) (k:List V→Option β):dA z o (aC x.cells) k = dA z o [.d (.int .i64 x.Kind),.d (.int .i64 x.N),.d (.int .i64 x.Unit)] k:=rfl
theorem bS.st_d {β:Type} (x:bS) (y:D) (sz off id:Nat) (kw:V→List (Nat × Option aX)→Option β):aP sz off id (.d y) (some (.box (aC x.cells))) kw = aP sz off id (.d y) (some (.box [.d (.int .i64 x.Kind),.d (.int .i64 x.N),.d (.int .i64 x.Unit)])) kw:=rfl
theorem bS.st_agg {β:Type} (x:bS) (y:List V) (sz off id:Nat) (kw:V→List (Nat × Option aX)→Option β):aP sz off id (.agg y) (some (.box (aC x.cells))) kw = aP sz off id (.agg y) (some (.box [.d (.int .i64 x.Kind),.d (.int .i64 x.N),.d (.int .i64 x.Unit)])) kw:=rfl
theorem bS.part {β:Type} (x:bS) (off id:Nat) (b:Option aX) (kw:V→List (Nat × Option aX)→Option β):aP 3 (off + 1) id (cW x.cells) b kw = aP 3 (off + 1) id (.agg [.d (.int .i64 x.Kind),.d (.int .i64 x.N),.d (.int .i64 x.Unit)]) b kw:=rfl
theorem bS.put {β:Type} (x:bS) (id:Nat) (cs:List V) (hc:cs.length = 3) (kw:V→List (Nat × Option aX)→Option β):aP 3 0 id (cW x.cells) (some (.box cs)) kw = kw .any [(id,some (.box (aC x.cells)))]:=cN 3 id _ rfl cs hc
theorem bS.rset {β:Type} (x:bS) (off:Nat) (d:D) (ds:List D) (n:Nat) (k:List D→Option β):bH x.cells off (d :: ds) n k = bH [.int .i64 x.Kind,.int .i64 x.N,.int .i64 x.Unit] off (d :: ds) n k:=rfl
theorem bS.rfull {β:Type} (x y:bS) (k:List D→Option β):bH x.cells 0 y.cells 3 k = k y.cells:=by unfold bH; exact (if_pos ⟨rfl,Nat.le_refl _⟩).trans rfl
theorem bS.get0 {β:Type} (x:bS) (k:D→Option β):bK x.cells 0 k = k (.int .i64 x.Kind):=rfl
theorem bS.get1 {β:Type} (x:bS) (k:D→Option β):bK x.cells 1 k = k (.int .i64 x.N):=rfl
theorem bS.get2 {β:Type} (x:bS) (k:D→Option β):bK x.cells 2 k = k (.int .i64 x.Unit):=rfl
theorem bS.sub0_3 {β:Type} (x:bS) (k:List D→Option β):iG x.cells 0 3 k = k x.cells:=rfl
theorem bS.cells_mk (f0:Int) (f1:Int) (f2:Int):bS.cells (bS.mk f0 f1 f2) = [.int .i64 f0,.int .i64 f1,.int .i64 f2]:=rfl
structure bD where
 Drawer:Int
 Drawee:Int
 Payee:Int
 Sum:Int
 Currency:Int
 Tenor:bS
 Day:Int
 City:Int
 Pay:Int
 Need:Int
 Rate:Int
 Flags:Int
 Parts:Int
 deriving Inhabited
def bD.cells (x:bD):List D:=[.int .i64 x.Drawer,.int .i64 x.Drawee,.int .i64 x.Payee,.int .i64 x.Sum,.int .i64 x.Currency,.int .i64 x.Tenor.Kind,.int .i64 x.Tenor.N,.int .i64 x.Tenor.Unit,.int .i64 x.Day,.int .i64 x.City,.int .i64 x.Pay,.int .i64 x.Need,.int .i64 x.Rate,.int .i64 x.Flags,.int .i64 x.Parts]
theorem bD.sized (xs:List bD):sized 15 (cM bD.cells xs) = true:=fA _ _ (fun x=>by rfl) xs
theorem bD.len (x:bD):x.cells.length = 15:=rfl
theorem bD.size {β:Type} (x:bD) (y:Option β):gP x.cells 15 y = y:=rfl
theorem bD.eq1 {β:Type} (x:bD) (ks:List Nat) (ys:List V) (k:Bool→Option β):dG ks (aC x.cells) ys k = dG ks [.d (.int .i64 x.Drawer),.d (.int .i64 x.Drawee),.d (.int .i64 x.Payee),.d (.int .i64 x.Sum),.d (.int .i64 x.Currency),.d (.int .i64 x.Tenor.Kind),.d (.int .i64 x.Tenor.N),.d (.int .i64 x.Tenor.Unit),.d (.int .i64 x.Day),.d (.int .i64 x.City),.d (.int .i64 x.Pay),.d (.int .i64 x.Need),.d (.int .i64 x.Rate),.d (.int .i64 x.Flags),.d (.int .i64 x.Parts)] ys k:=rfl
theorem bD.eq2 {β:Type} (x:bD) (ks:List Nat) (ys:List V) (k:Bool→Option β):dG ks ys (aC x.cells) k = dG ks ys [.d (.int .i64 x.Drawer),.d (.int .i64 x.Drawee),.d (.int .i64 x.Payee),.d (.int .i64 x.Sum),.d (.int .i64 x.Currency),.d (.int .i64 x.Tenor.Kind),.d (.int .i64 x.Tenor.N),.d (.int .i64 x.Tenor.Unit),.d (.int .i64 x.Day),.d (.int .i64 x.City),.d (.int .i64 x.Pay),.d (.int .i64 x.Need),.d (.int .i64 x.Rate),.d (.int .i64 x.Flags),.d (.int .i64 x.Parts)] k:=rfl
theorem bD.lens {β:Type} (x:bD) (y:Option β):kW (aC x.cells) 15 y = y:=rfl
theorem bD.vsets {β:Type} (x:bD) (z:List V) (o:Nat) (k:List V→Option β):dA z o (aC x.cells) k = dA z o [.d (.int .i64 x.Drawer),.d (.int .i64 x.Drawee),.d (.int .i64 x.Payee),.d (.int .i64 x.Sum),.d (.int .i64 x.Currency),.d (.int .i64 x.Tenor.Kind),.d (.int .i64 x.Tenor.N),.d (.int .i64 x.Tenor.Unit),.d (.int .i64 x.Day),.d (.int .i64 x.City),.d (.int .i64 x.Pay),.d (.int .i64 x.Need),.d (.int .i64 x.Rate),.d (.int .i64 x.Flags),.d (.int .i64 x.Parts)] k:=rfl
theorem bD.st_d {β:Type} (x:bD) (y:D) (sz off id:Nat) (kw:V→List (Nat × Option aX)→Option β):aP sz off id (.d y) (some (.box (aC x.cells))) kw = aP sz off id (.d y) (some (.box [.d (.int .i64 x.Drawer),.d (.int .i64 x.Drawee),.d (.int .i64 x.Payee),.d (.int .i64 x.Sum),.d (.int .i64 x.Currency),.d (.int .i64 x.Tenor.Kind),.d (.int .i64 x.Tenor.N),.d (.int .i64 x.Tenor.Unit),.d (.int .i64 x.Day),.d (.int .i64 x.City),.d (.int .i64 x.Pay),.d (.int .i64 x.Need),.d (.int .i64 x.Rate),.d (.int .i64 x.Flags),.d (.int .i64 x.Parts)])) kw:=rfl
theorem bD.st_agg {β:Type} (x:bD) (y:List V) (sz off id:Nat) (kw:V→List (Nat × Option aX)→Option β):aP sz off id (.agg y) (some (.box (aC x.cells))) kw = aP sz off id (.agg y) (some (.box [.d (.int .i64 x.Drawer),.d (.int .i64 x.Drawee),.d (.int .i64 x.Payee),.d (.int .i64 x.Sum),.d (.int .i64 x.Currency),.d (.int .i64 x.Tenor.Kind),.d (.int .i64 x.Tenor.N),.d (.int .i64 x.Tenor.Unit),.d (.int .i64 x.Day),.d (.int .i64 x.City),.d (.int .i64 x.Pay),.d (.int .i64 x.Need),.d (.int .i64 x.Rate),.d (.int .i64 x.Flags),.d (.int .i64 x.Parts)])) kw:=rfl
theorem bD.part {β:Type} (x:bD) (off id:Nat) (b:Option aX) (kw:V→List (Nat × Option aX)→Option β):aP 15 (off + 1) id (cW x.cells) b kw = aP 15 (off + 1) id (.agg [.d (.int .i64 x.Drawer),.d (.int .i64 x.Drawee),.d (.int .i64 x.Payee),.d (.int .i64 x.Sum),.d (.int .i64 x.Currency),.d (.int .i64 x.Tenor.Kind),.d (.int .i64 x.Tenor.N),.d (.int .i64 x.Tenor.Unit),.d (.int .i64 x.Day),.d (.int .i64 x.City),.d (.int .i64 x.Pay),.d (.int .i64 x.Need),.d (.int .i64 x.Rate),.d (.int .i64 x.Flags),.d (.int .i64 x.Parts)]) b kw:=rfl
theorem bD.put {β:Type} (x:bD) (id:Nat) (cs:List V) (hc:cs.length = 15) (kw:V→List (Nat × Option aX)→Option β):aP 15 0 id (cW x.cells) (some (.box cs)) kw = kw .any [(id,some (.box (aC x.cells)))]:=cN 15 id _ rfl cs hc
theorem bD.rset {β:Type} (x:bD) (off:Nat) (d:D) (ds:List D) (n:Nat) (k:List D→Option β):bH x.cells off (d :: ds) n k = bH [.int .i64 x.Drawer,.int .i64 x.Drawee,.int .i64 x.Payee,.int .i64 x.Sum,.int .i64 x.Currency,.int .i64 x.Tenor.Kind,.int .i64 x.Tenor.N,.int .i64 x.Tenor.Unit,.int .i64 x.Day,.int .i64 x.City,.int .i64 x.Pay,.int .i64 x.Need,.int .i64 x.Rate,.int .i64 x.Flags,.int .i64 x.Parts] off (d :: ds) n k:=rfl
theorem bD.rfull {β:Type} (x y:bD) (k:List D→Option β):bH x.cells 0 y.cells 15 k = k y.cells:=by unfold bH; exact (if_pos ⟨rfl,Nat.le_refl _⟩).trans rfl
theorem bD.get0 {β:Type} (x:bD) (k:D→Option β):bK x.cells 0 k = k (.int .i64 x.Drawer):=rfl
theorem bD.get1 {β:Type} (x:bD) (k:D→Option β):bK x.cells 1 k = k (.int .i64 x.Drawee):=rfl
theorem bD.get2 {β:Type} (x:bD) (k:D→Option β):bK x.cells 2 k = k (.int .i64 x.Payee):=rfl
theorem bD.get3 {β:Type} (x:bD) (k:D→Option β):bK x.cells 3 k = k (.int .i64 x.Sum):=rfl
theorem bD.get4 {β:Type} (x:bD) (k:D→Option β):bK x.cells 4 k = k (.int .i64 x.Currency):=rfl
theorem bD.get5 {β:Type} (x:bD) (k:D→Option β):bK x.cells 5 k = k (.int .i64 x.Tenor.Kind):=rfl
theorem bD.get6 {β:Type} (x:bD) (k:D→Option β):bK x.cells 6 k = k (.int .i64 x.Tenor.N):=rfl
theorem bD.get7 {β:Type} (x:bD) (k:D→Option β):bK x.cells 7 k = k (.int .i64 x.Tenor.Unit):=rfl
theorem bD.get8 {β:Type} (x:bD) (k:D→Option β):bK x.cells 8 k = k (.int .i64 x.Day):=rfl
theorem bD.get9 {β:Type} (x:bD) (k:D→Option β):bK x.cells 9 k = k (.int .i64 x.City):=rfl
theorem bD.get10 {β:Type} (x:bD) (k:D→Option β):bK x.cells 10 k = k (.int .i64 x.Pay):=rfl
theorem bD.get11 {β:Type} (x:bD) (k:D→Option β):bK x.cells 11 k = k (.int .i64 x.Need):=rfl
theorem bD.get12 {β:Type} (x:bD) (k:D→Option β):bK x.cells 12 k = k (.int .i64 x.Rate):=rfl
theorem bD.get13 {β:Type} (x:bD) (k:D→Option β):bK x.cells 13 k = k (.int .i64 x.Flags):=rfl
theorem bD.get14 {β:Type} (x:bD) (k:D→Option β):bK x.cells 14 k = k (.int .i64 x.Parts):=rfl
theorem bD.sub0_15 {β:Type} (x:bD) (k:List D→Option β):iG x.cells 0 15 k = k x.cells:=rfl
theorem bD.sub5_3 {β:Type} (x:bD) (k:List D→Option β):iG x.cells 5 3 k = k (bS.cells x.Tenor):=rfl
theorem bD.cells_mk (f0:Int) (f1:Int) (f2:Int) (f3:Int) (f4:Int) (f5:bS) (f6:Int) (f7:Int) (f8:Int) (f9:Int) (f10:Int) (f11:Int) (f12:Int):bD.cells (bD.mk f0 f1 f2 f3 f4 f5 f6 f7 f8 f9 f10 f11 f12) = [.int .i64 f0,.int .i64 f1,.int .i64 f2,.int .i64 f3,.int .i64 f4,.int .i64 f5.Kind,.int .i64 f5.N,.int .i64 f5.Unit,.int .i64 f6,.int .i64 f7,.int .i64 f8,.int .i64 f9,.int .i64 f10,.int .i64 f11,.int .i64 f12]:=rfl
structure aO where
 Kind:Int
 Part:Int
 Who:Int
 For:Int
 To:Int
 Sum:Int
 Day:Int
 City:Int
 Flags:Int
 deriving Inhabited
def aO.cells (x:aO):List D:=[.int .i64 x.Kind,.int .i64 x.Part,.int .i64 x.Who,.int .i64 x.For,.int .i64 x.To,.int .i64 x.Sum,.int .i64 x.Day,.int .i64 x.City,.int .i64 x.Flags]
theorem aO.sized (xs:List aO):sized 9 (cM aO.cells xs) = true:=fA _ _ (fun x=>by rfl) xs
theorem aO.len (x:aO):x.cells.length = 9:=rfl
theorem aO.size {β:Type} (x:aO) (y:Option β):gP x.cells 9 y = y:=rfl
theorem aO.eq1 {β:Type} (x:aO) (ks:List Nat) (ys:List V) (k:Bool→Option β):dG ks (aC x.cells) ys k = dG ks [.d (.int .i64 x.Kind),.d (.int .i64 x.Part),.d (.int .i64 x.Who),.d (.int .i64 x.For),.d (.int .i64 x.To),.d (.int .i64 x.Sum),.d (.int .i64 x.Day),.d (.int .i64 x.City),.d (.int .i64 x.Flags)] ys k:=rfl
theorem aO.eq2 {β:Type} (x:aO) (ks:List Nat) (ys:List V) (k:Bool→Option β):dG ks ys (aC x.cells) k = dG ks ys [.d (.int .i64 x.Kind),.d (.int .i64 x.Part),.d (.int .i64 x.Who),.d (.int .i64 x.For),.d (.int .i64 x.To),.d (.int .i64 x.Sum),.d (.int .i64 x.Day),.d (.int .i64 x.City),.d (.int .i64 x.Flags)] k:=rfl
theorem aO.lens {β:Type} (x:aO) (y:Option β):kW (aC x.cells) 9 y = y:=rfl
theorem aO.vsets {β:Type} (x:aO) (z:List V) (o:Nat) (k:List V→Option β):dA z o (aC x.cells) k = dA z o [.d (.int .i64 x.Kind),.d (.int .i64 x.Part),.d (.int .i64 x.Who),.d (.int .i64 x.For),.d (.int .i64 x.To),.d (.int .i64 x.Sum),.d (.int .i64 x.Day),.d (.int .i64 x.City),.d (.int .i64 x.Flags)] k:=rfl
theorem aO.st_d {β:Type} (x:aO) (y:D) (sz off id:Nat) (kw:V→List (Nat × Option aX)→Option β):aP sz off id (.d y) (some (.box (aC x.cells))) kw = aP sz off id (.d y) (some (.box [.d (.int .i64 x.Kind),.d (.int .i64 x.Part),.d (.int .i64 x.Who),.d (.int .i64 x.For),.d (.int .i64 x.To),.d (.int .i64 x.Sum),.d (.int .i64 x.Day),.d (.int .i64 x.City),.d (.int .i64 x.Flags)])) kw:=rfl
theorem aO.st_agg {β:Type} (x:aO) (y:List V) (sz off id:Nat) (kw:V→List (Nat × Option aX)→Option β):aP sz off id (.agg y) (some (.box (aC x.cells))) kw = aP sz off id (.agg y) (some (.box [.d (.int .i64 x.Kind),.d (.int .i64 x.Part),.d (.int .i64 x.Who),.d (.int .i64 x.For),.d (.int .i64 x.To),.d (.int .i64 x.Sum),.d (.int .i64 x.Day),.d (.int .i64 x.City),.d (.int .i64 x.Flags)])) kw:=rfl
theorem aO.part {β:Type} (x:aO) (off id:Nat) (b:Option aX) (kw:V→List (Nat × Option aX)→Option β):aP 9 (off + 1) id (cW x.cells) b kw = aP 9 (off + 1) id (.agg [.d (.int .i64 x.Kind),.d (.int .i64 x.Part),.d (.int .i64 x.Who),.d (.int .i64 x.For),.d (.int .i64 x.To),.d (.int .i64 x.Sum),.d (.int .i64 x.Day),.d (.int .i64 x.City),.d (.int .i64 x.Flags)]) b kw:=rfl
theorem aO.put {β:Type} (x:aO) (id:Nat) (cs:List V) (hc:cs.length = 9) (kw:V→List (Nat × Option aX)→Option β):aP 9 0 id (cW x.cells) (some (.box cs)) kw = kw .any [(id,some (.box (aC x.cells)))]:=cN 9 id _ rfl cs hc
theorem aO.rset {β:Type} (x:aO) (off:Nat) (d:D) (ds:List D) (n:Nat) (k:List D→Option β):bH x.cells off (d :: ds) n k = bH [.int .i64 x.Kind,.int .i64 x.Part,.int .i64 x.Who,.int .i64 x.For,.int .i64 x.To,.int .i64 x.Sum,.int .i64 x.Day,.int .i64 x.City,.int .i64 x.Flags] off (d :: ds) n k:=rfl
theorem aO.rfull {β:Type} (x y:aO) (k:List D→Option β):bH x.cells 0 y.cells 9 k = k y.cells:=by unfold bH; exact (if_pos ⟨rfl,Nat.le_refl _⟩).trans rfl
theorem aO.get0 {β:Type} (x:aO) (k:D→Option β):bK x.cells 0 k = k (.int .i64 x.Kind):=rfl
theorem aO.get1 {β:Type} (x:aO) (k:D→Option β):bK x.cells 1 k = k (.int .i64 x.Part):=rfl
theorem aO.get2 {β:Type} (x:aO) (k:D→Option β):bK x.cells 2 k = k (.int .i64 x.Who):=rfl
theorem aO.get3 {β:Type} (x:aO) (k:D→Option β):bK x.cells 3 k = k (.int .i64 x.For):=rfl
theorem aO.get4 {β:Type} (x:aO) (k:D→Option β):bK x.cells 4 k = k (.int .i64 x.To):=rfl
theorem aO.get5 {β:Type} (x:aO) (k:D→Option β):bK x.cells 5 k = k (.int .i64 x.Sum):=rfl
theorem aO.get6 {β:Type} (x:aO) (k:D→Option β):bK x.cells 6 k = k (.int .i64 x.Day):=rfl
theorem aO.get7 {β:Type} (x:aO) (k:D→Option β):bK x.cells 7 k = k (.int .i64 x.City):=rfl
theorem aO.get8 {β:Type} (x:aO) (k:D→Option β):bK x.cells 8 k = k (.int .i64 x.Flags):=rfl
theorem aO.sub0_9 {β:Type} (x:aO) (k:List D→Option β):iG x.cells 0 9 k = k x.cells:=rfl
theorem aO.cells_mk (f0:Int) (f1:Int) (f2:Int) (f3:Int) (f4:Int) (f5:Int) (f6:Int) (f7:Int) (f8:Int):aO.cells (aO.mk f0 f1 f2 f3 f4 f5 f6 f7 f8) = [.int .i64 f0,.int .i64 f1,.int .i64 f2,.int .i64 f3,.int .i64 f4,.int .i64 f5,.int .i64 f6,.int .i64 f7,.int .i64 f8]:=rfl
structure aZ where
 At:Int
 Sum:Int
 deriving Inhabited
def aZ.cells (x:aZ):List D:=[.int .i64 x.At,.int .i64 x.Sum]
theorem aZ.sized (xs:List aZ):sized 2 (cM aZ.cells xs) = true:=fA _ _ (fun x=>by rfl) xs
theorem aZ.len (x:aZ):x.cells.length = 2:=rfl
theorem aZ.size {β:Type} (x:aZ) (y:Option β):gP x.cells 2 y = y:=rfl
theorem aZ.eq1 {β:Type} (x:aZ) (ks:List Nat) (ys:List V) (k:Bool→Option β):dG ks (aC x.cells) ys k = dG ks [.d (.int .i64 x.At),.d (.int .i64 x.Sum)] ys k:=rfl
theorem aZ.eq2 {β:Type} (x:aZ) (ks:List Nat) (ys:List V) (k:Bool→Option β):dG ks ys (aC x.cells) k = dG ks ys [.d (.int .i64 x.At),.d (.int .i64 x.Sum)] k:=rfl
theorem aZ.lens {β:Type} (x:aZ) (y:Option β):kW (aC x.cells) 2 y = y:=rfl
theorem aZ.vsets {β:Type} (x:aZ) (z:List V) (o:Nat) (k:List V→Option β):dA z o (aC x.cells) k = dA z o [.d (.int .i64 x.At),.d (.int .i64 x.Sum)] k:=rfl
theorem aZ.st_d {β:Type} (x:aZ) (y:D) (sz off id:Nat) (kw:V→List (Nat × Option aX)→Option β):aP sz off id (.d y) (some (.box (aC x.cells))) kw = aP sz off id (.d y) (some (.box [.d (.int .i64 x.At),.d (.int .i64 x.Sum)])) kw:=rfl
theorem aZ.st_agg {β:Type} (x:aZ) (y:List V) (sz off id:Nat) (kw:V→List (Nat × Option aX)→Option β):aP sz off id (.agg y) (some (.box (aC x.cells))) kw = aP sz off id (.agg y) (some (.box [.d (.int .i64 x.At),.d (.int .i64 x.Sum)])) kw:=rfl
theorem aZ.part {β:Type} (x:aZ) (off id:Nat) (b:Option aX) (kw:V→List (Nat × Option aX)→Option β):aP 2 (off + 1) id (cW x.cells) b kw = aP 2 (off + 1) id (.agg [.d (.int .i64 x.At),.d (.int .i64 x.Sum)]) b kw:=rfl
theorem aZ.put {β:Type} (x:aZ) (id:Nat) (cs:List V) (hc:cs.length = 2) (kw:V→List (Nat × Option aX)→Option β):aP 2 0 id (cW x.cells) (some (.box cs)) kw = kw .any [(id,some (.box (aC x.cells)))]:=cN 2 id _ rfl cs hc
theorem aZ.rset {β:Type} (x:aZ) (off:Nat) (d:D) (ds:List D) (n:Nat) (k:List D→Option β):bH x.cells off (d :: ds) n k = bH [.int .i64 x.At,.int .i64 x.Sum] off (d :: ds) n k:=rfl
theorem aZ.rfull {β:Type} (x y:aZ) (k:List D→Option β):bH x.cells 0 y.cells 2 k = k y.cells:=by unfold bH; exact (if_pos ⟨rfl,Nat.le_refl _⟩).trans rfl
theorem aZ.get0 {β:Type} (x:aZ) (k:D→Option β):bK x.cells 0 k = k (.int .i64 x.At):=rfl
theorem aZ.get1 {β:Type} (x:aZ) (k:D→Option β):bK x.cells 1 k = k (.int .i64 x.Sum):=rfl
theorem aZ.sub0_2 {β:Type} (x:aZ) (k:List D→Option β):iG x.cells 0 2 k = k x.cells:=rfl
theorem aZ.cells_mk (f0:Int) (f1:Int):aZ.cells (aZ.mk f0 f1) = [.int .i64 f0,.int .i64 f1]:=rfl
structure bB where
 Kind:Int
 Who:Int
 To:Int
 Part:Int
 At:Int
 Sum:Int
 Day:Int
 City:Int
 Form:Int
 deriving Inhabited
def bB.cells (x:bB):List D:=[.int .i64 x.Kind,.int .i64 x.Who,.int .i64 x.To,.int .i64 x.Part,.int .i64 x.At,.int .i64 x.Sum,.int .i64 x.Day,.int .i64 x.City,.int .i64 x.Form]
theorem bB.sized (xs:List bB):sized 9 (cM bB.cells xs) = true:=fA _ _ (fun x=>by rfl) xs
theorem bB.len (x:bB):x.cells.length = 9:=rfl
theorem bB.size {β:Type} (x:bB) (y:Option β):gP x.cells 9 y = y:=rfl
theorem bB.eq1 {β:Type} (x:bB) (ks:List Nat) (ys:List V) (k:Bool→Option β):dG ks (aC x.cells) ys k = dG ks [.d (.int .i64 x.Kind),.d (.int .i64 x.Who),.d (.int .i64 x.To),.d (.int .i64 x.Part),.d (.int .i64 x.At),.d (.int .i64 x.Sum),.d (.int .i64 x.Day),.d (.int .i64 x.City),.d (.int .i64 x.Form)] ys k:=rfl
theorem bB.eq2 {β:Type} (x:bB) (ks:List Nat) (ys:List V) (k:Bool→Option β):dG ks ys (aC x.cells) k = dG ks ys [.d (.int .i64 x.Kind),.d (.int .i64 x.Who),.d (.int .i64 x.To),.d (.int .i64 x.Part),.d (.int .i64 x.At),.d (.int .i64 x.Sum),.d (.int .i64 x.Day),.d (.int .i64 x.City),.d (.int .i64 x.Form)] k:=rfl
theorem bB.lens {β:Type} (x:bB) (y:Option β):kW (aC x.cells) 9 y = y:=rfl
theorem bB.vsets {β:Type} (x:bB) (z:List V) (o:Nat) (k:List V→Option β):dA z o (aC x.cells) k = dA z o [.d (.int .i64 x.Kind),.d (.int .i64 x.Who),.d (.int .i64 x.To),.d (.int .i64 x.Part),.d (.int .i64 x.At),.d (.int .i64 x.Sum),.d (.int .i64 x.Day),.d (.int .i64 x.City),.d (.int .i64 x.Form)] k:=rfl
theorem bB.st_d {β:Type} (x:bB) (y:D) (sz off id:Nat) (kw:V→List (Nat × Option aX)→Option β):aP sz off id (.d y) (some (.box (aC x.cells))) kw = aP sz off id (.d y) (some (.box [.d (.int .i64 x.Kind),.d (.int .i64 x.Who),.d (.int .i64 x.To),.d (.int .i64 x.Part),.d (.int .i64 x.At),.d (.int .i64 x.Sum),.d (.int .i64 x.Day),.d (.int .i64 x.City),.d (.int .i64 x.Form)])) kw:=rfl
theorem bB.st_agg {β:Type} (x:bB) (y:List V) (sz off id:Nat) (kw:V→List (Nat × Option aX)→Option β):aP sz off id (.agg y) (some (.box (aC x.cells))) kw = aP sz off id (.agg y) (some (.box [.d (.int .i64 x.Kind),.d (.int .i64 x.Who),.d (.int .i64 x.To),.d (.int .i64 x.Part),.d (.int .i64 x.At),.d (.int .i64 x.Sum),.d (.int .i64 x.Day),.d (.int .i64 x.City),.d (.int .i64 x.Form)])) kw:=rfl
theorem bB.part {β:Type} (x:bB) (off id:Nat) (b:Option aX) (kw:V→List (Nat × Option aX)→Option β):aP 9 (off + 1) id (cW x.cells) b kw = aP 9 (off + 1) id (.agg [.d (.int .i64 x.Kind),.d (.int .i64 x.Who),.d (.int .i64 x.To),.d (.int .i64 x.Part),.d (.int .i64 x.At),.d (.int .i64 x.Sum),.d (.int .i64 x.Day),.d (.int .i64 x.City),.d (.int .i64 x.Form)]) b kw:=rfl
theorem bB.put {β:Type} (x:bB) (id:Nat) (cs:List V) (hc:cs.length = 9) (kw:V→List (Nat × Option aX)→Option β):aP 9 0 id (cW x.cells) (some (.box cs)) kw = kw .any [(id,some (.box (aC x.cells)))]:=cN 9 id _ rfl cs hc
theorem bB.rset {β:Type} (x:bB) (off:Nat) (d:D) (ds:List D) (n:Nat) (k:List D→Option β):bH x.cells off (d :: ds) n k = bH [.int .i64 x.Kind,.int .i64 x.Who,.int .i64 x.To,.int .i64 x.Part,.int .i64 x.At,.int .i64 x.Sum,.int .i64 x.Day,.int .i64 x.City,.int .i64 x.Form] off (d :: ds) n k:=rfl
theorem bB.rfull {β:Type} (x y:bB) (k:List D→Option β):bH x.cells 0 y.cells 9 k = k y.cells:=by unfold bH; exact (if_pos ⟨rfl,Nat.le_refl _⟩).trans rfl
theorem bB.get0 {β:Type} (x:bB) (k:D→Option β):bK x.cells 0 k = k (.int .i64 x.Kind):=rfl
theorem bB.get1 {β:Type} (x:bB) (k:D→Option β):bK x.cells 1 k = k (.int .i64 x.Who):=rfl
theorem bB.get2 {β:Type} (x:bB) (k:D→Option β):bK x.cells 2 k = k (.int .i64 x.To):=rfl
theorem bB.get3 {β:Type} (x:bB) (k:D→Option β):bK x.cells 3 k = k (.int .i64 x.Part):=rfl
theorem bB.get4 {β:Type} (x:bB) (k:D→Option β):bK x.cells 4 k = k (.int .i64 x.At):=rfl
theorem bB.get5 {β:Type} (x:bB) (k:D→Option β):bK x.cells 5 k = k (.int .i64 x.Sum):=rfl
theorem bB.get6 {β:Type} (x:bB) (k:D→Option β):bK x.cells 6 k = k (.int .i64 x.Day):=rfl
theorem bB.get7 {β:Type} (x:bB) (k:D→Option β):bK x.cells 7 k = k (.int .i64 x.City):=rfl
theorem bB.get8 {β:Type} (x:bB) (k:D→Option β):bK x.cells 8 k = k (.int .i64 x.Form):=rfl
theorem bB.sub0_9 {β:Type} (x:bB) (k:List D→Option β):iG x.cells 0 9 k = k x.cells:=rfl
theorem bB.cells_mk (f0:Int) (f1:Int) (f2:Int) (f3:Int) (f4:Int) (f5:Int) (f6:Int) (f7:Int) (f8:Int):bB.cells (bB.mk f0 f1 f2 f3 f4 f5 f6 f7 f8) = [.int .i64 f0,.int .i64 f1,.int .i64 f2,.int .i64 f3,.int .i64 f4,.int .i64 f5,.int .i64 f6,.int .i64 f7,.int .i64 f8]:=rfl
structure bG where
 Kind:Int
 At:Int
 N:Int
 deriving Inhabited
def bG.cells (x:bG):List D:=[.int .i64 x.Kind,.int .i64 x.At,.int .i64 x.N]
theorem bG.sized (xs:List bG):sized 3 (cM bG.cells xs) = true:=fA _ _ (fun x=>by rfl) xs
theorem bG.len (x:bG):x.cells.length = 3:=rfl
theorem bG.size {β:Type} (x:bG) (y:Option β):gP x.cells 3 y = y:=rfl
theorem bG.eq1 {β:Type} (x:bG) (ks:List Nat) (ys:List V) (k:Bool→Option β):dG ks (aC x.cells) ys k = dG ks [.d (.int .i64 x.Kind),.d (.int .i64 x.At),.d (.int .i64 x.N)] ys k:=rfl
theorem bG.eq2 {β:Type} (x:bG) (ks:List Nat) (ys:List V) (k:Bool→Option β):dG ks ys (aC x.cells) k = dG ks ys [.d (.int .i64 x.Kind),.d (.int .i64 x.At),.d (.int .i64 x.N)] k:=rfl
theorem bG.lens {β:Type} (x:bG) (y:Option β):kW (aC x.cells) 3 y = y:=rfl
theorem bG.vsets {β:Type} (x:bG) (z:List V) (o:Nat) (k:List V→Option β):dA z o (aC x.cells) k = dA z o [.d (.int .i64 x.Kind),.d (.int .i64 x.At),.d (.int .i64 x.N)] k:=rfl
theorem bG.st_d {β:Type} (x:bG) (y:D) (sz off id:Nat) (kw:V→List (Nat × Option aX)→Option β):aP sz off id (.d y) (some (.box (aC x.cells))) kw = aP sz off id (.d y) (some (.box [.d (.int .i64 x.Kind),.d (.int .i64 x.At),.d (.int .i64 x.N)])) kw:=rfl
theorem bG.st_agg {β:Type} (x:bG) (y:List V) (sz off id:Nat) (kw:V→List (Nat × Option aX)→Option β):aP sz off id (.agg y) (some (.box (aC x.cells))) kw = aP sz off id (.agg y) (some (.box [.d (.int .i64 x.Kind),.d (.int .i64 x.At),.d (.int .i64 x.N)])) kw:=rfl
theorem bG.part {β:Type} (x:bG) (off id:Nat) (b:Option aX) (kw:V→List (Nat × Option aX)→Option β):aP 3 (off + 1) id (cW x.cells) b kw = aP 3 (off + 1) id (.agg [.d (.int .i64 x.Kind),.d (.int .i64 x.At),.d (.int .i64 x.N)]) b kw:=rfl
theorem bG.put {β:Type} (x:bG) (id:Nat) (cs:List V) (hc:cs.length = 3) (kw:V→List (Nat × Option aX)→Option β):aP 3 0 id (cW x.cells) (some (.box cs)) kw = kw .any [(id,some (.box (aC x.cells)))]:=cN 3 id _ rfl cs hc
theorem bG.rset {β:Type} (x:bG) (off:Nat) (d:D) (ds:List D) (n:Nat) (k:List D→Option β):bH x.cells off (d :: ds) n k = bH [.int .i64 x.Kind,.int .i64 x.At,.int .i64 x.N] off (d :: ds) n k:=rfl
theorem bG.rfull {β:Type} (x y:bG) (k:List D→Option β):bH x.cells 0 y.cells 3 k = k y.cells:=by unfold bH; exact (if_pos ⟨rfl,Nat.le_refl _⟩).trans rfl
theorem bG.get0 {β:Type} (x:bG) (k:D→Option β):bK x.cells 0 k = k (.int .i64 x.Kind):=rfl
theorem bG.get1 {β:Type} (x:bG) (k:D→Option β):bK x.cells 1 k = k (.int .i64 x.At):=rfl
theorem bG.get2 {β:Type} (x:bG) (k:D→Option β):bK x.cells 2 k = k (.int .i64 x.N):=rfl
theorem bG.sub0_3 {β:Type} (x:bG) (k:List D→Option β):iG x.cells 0 3 k = k x.cells:=rfl
theorem bG.cells_mk (f0:Int) (f1:Int) (f2:Int):bG.cells (bG.mk f0 f1 f2) = [.int .i64 f0,.int .i64 f1,.int .i64 f2]:=rfl
structure aB where
 Bill:bD
 Signs:List aO
 Alters:List aZ
 Acts:List bB
 Facts:List bG
 deriving Inhabited
def aB.cells (x:aB):List D:=[.int .i64 x.Bill.Drawer,.int .i64 x.Bill.Drawee,.int .i64 x.Bill.Payee,.int .i64 x.Bill.Sum,.int .i64 x.Bill.Currency,.int .i64 x.Bill.Tenor.Kind,.int .i64 x.Bill.Tenor.N,.int .i64 x.Bill.Tenor.Unit,.int .i64 x.Bill.Day,.int .i64 x.Bill.City,.int .i64 x.Bill.Pay,.int .i64 x.Bill.Need,.int .i64 x.Bill.Rate,.int .i64 x.Bill.Flags,.int .i64 x.Bill.Parts,.sl (cM aO.cells x.Signs),.sl (cM aZ.cells x.Alters),.sl (cM bB.cells x.Acts),.sl (cM bG.cells x.Facts)]
theorem aB.sized (xs:List aB):sized 19 (cM aB.cells xs) = true:=fA _ _ (fun x=>by rfl) xs
theorem aB.len (x:aB):x.cells.length = 19:=rfl
theorem aB.size {β:Type} (x:aB) (y:Option β):gP x.cells 19 y = y:=rfl
theorem aB.eq1 {β:Type} (x:aB) (ks:List Nat) (ys:List V) (k:Bool→Option β):dG ks (aC x.cells) ys k = dG ks [.d (.int .i64 x.Bill.Drawer),.d (.int .i64 x.Bill.Drawee),.d (.int .i64 x.Bill.Payee),.d (.int .i64 x.Bill.Sum),.d (.int .i64 x.Bill.Currency),.d (.int .i64 x.Bill.Tenor.Kind),.d (.int .i64 x.Bill.Tenor.N),.d (.int .i64 x.Bill.Tenor.Unit),.d (.int .i64 x.Bill.Day),.d (.int .i64 x.Bill.City),.d (.int .i64 x.Bill.Pay),.d (.int .i64 x.Bill.Need),.d (.int .i64 x.Bill.Rate),.d (.int .i64 x.Bill.Flags),.d (.int .i64 x.Bill.Parts),.d (.sl (cM aO.cells x.Signs)),.d (.sl (cM aZ.cells x.Alters)),.d (.sl (cM bB.cells x.Acts)),.d (.sl (cM bG.cells x.Facts))] ys k:=rfl
theorem aB.eq2 {β:Type} (x:aB) (ks:List Nat) (ys:List V) (k:Bool→Option β):dG ks ys (aC x.cells) k = dG ks ys [.d (.int .i64 x.Bill.Drawer),.d (.int .i64 x.Bill.Drawee),.d (.int .i64 x.Bill.Payee),.d (.int .i64 x.Bill.Sum),.d (.int .i64 x.Bill.Currency),.d (.int .i64 x.Bill.Tenor.Kind),.d (.int .i64 x.Bill.Tenor.N),.d (.int .i64 x.Bill.Tenor.Unit),.d (.int .i64 x.Bill.Day),.d (.int .i64 x.Bill.City),.d (.int .i64 x.Bill.Pay),.d (.int .i64 x.Bill.Need),.d (.int .i64 x.Bill.Rate),.d (.int .i64 x.Bill.Flags),.d (.int .i64 x.Bill.Parts),.d (.sl (cM aO.cells x.Signs)),.d (.sl (cM aZ.cells x.Alters)),.d (.sl (cM bB.cells x.Acts)),.d (.sl (cM bG.cells x.Facts))] k:=rfl
theorem aB.lens {β:Type} (x:aB) (y:Option β):kW (aC x.cells) 19 y = y:=rfl
theorem aB.vsets {β:Type} (x:aB) (z:List V) (o:Nat) (k:List V→Option β):dA z o (aC x.cells) k = dA z o [.d (.int .i64 x.Bill.Drawer),.d (.int .i64 x.Bill.Drawee),.d (.int .i64 x.Bill.Payee),.d (.int .i64 x.Bill.Sum),.d (.int .i64 x.Bill.Currency),.d (.int .i64 x.Bill.Tenor.Kind),.d (.int .i64 x.Bill.Tenor.N),.d (.int .i64 x.Bill.Tenor.Unit),.d (.int .i64 x.Bill.Day),.d (.int .i64 x.Bill.City),.d (.int .i64 x.Bill.Pay),.d (.int .i64 x.Bill.Need),.d (.int .i64 x.Bill.Rate),.d (.int .i64 x.Bill.Flags),.d (.int .i64 x.Bill.Parts),.d (.sl (cM aO.cells x.Signs)),.d (.sl (cM aZ.cells x.Alters)),.d (.sl (cM bB.cells x.Acts)),.d (.sl (cM bG.cells x.Facts))] k:=rfl
theorem aB.st_d {β:Type} (x:aB) (y:D) (sz off id:Nat) (kw:V→List (Nat × Option aX)→Option β):aP sz off id (.d y) (some (.box (aC x.cells))) kw = aP sz off id (.d y) (some (.box [.d (.int .i64 x.Bill.Drawer),.d (.int .i64 x.Bill.Drawee),.d (.int .i64 x.Bill.Payee),.d (.int .i64 x.Bill.Sum),.d (.int .i64 x.Bill.Currency),.d (.int .i64 x.Bill.Tenor.Kind),.d (.int .i64 x.Bill.Tenor.N),.d (.int .i64 x.Bill.Tenor.Unit),.d (.int .i64 x.Bill.Day),.d (.int .i64 x.Bill.City),.d (.int .i64 x.Bill.Pay),.d (.int .i64 x.Bill.Need),.d (.int .i64 x.Bill.Rate),.d (.int .i64 x.Bill.Flags),.d (.int .i64 x.Bill.Parts),.d (.sl (cM aO.cells x.Signs)),.d (.sl (cM aZ.cells x.Alters)),.d (.sl (cM bB.cells x.Acts)),.d (.sl (cM bG.cells x.Facts))])) kw:=rfl
theorem aB.st_nil {β:Type} (x:aB)  (sz off id:Nat) (kw:V→List (Nat × Option aX)→Option β):aP sz off id .nil (some (.box (aC x.cells))) kw = aP sz off id .nil (some (.box [.d (.int .i64 x.Bill.Drawer),.d (.int .i64 x.Bill.Drawee),.d (.int .i64 x.Bill.Payee),.d (.int .i64 x.Bill.Sum),.d (.int .i64 x.Bill.Currency),.d (.int .i64 x.Bill.Tenor.Kind),.d (.int .i64 x.Bill.Tenor.N),.d (.int .i64 x.Bill.Tenor.Unit),.d (.int .i64 x.Bill.Day),.d (.int .i64 x.Bill.City),.d (.int .i64 x.Bill.Pay),.d (.int .i64 x.Bill.Need),.d (.int .i64 x.Bill.Rate),.d (.int .i64 x.Bill.Flags),.d (.int .i64 x.Bill.Parts),.d (.sl (cM aO.cells x.Signs)),.d (.sl (cM aZ.cells x.Alters)),.d (.sl (cM bB.cells x.Acts)),.d (.sl (cM bG.cells x.Facts))])) kw:=rfl
theorem aB.st_own {β:Type} (x:aB) (i v:Nat) (sz off id:Nat) (kw:V→List (Nat × Option aX)→Option β):aP sz off id (.own i v) (some (.box (aC x.cells))) kw = aP sz off id (.own i v) (some (.box [.d (.int .i64 x.Bill.Drawer),.d (.int .i64 x.Bill.Drawee),.d (.int .i64 x.Bill.Payee),.d (.int .i64 x.Bill.Sum),.d (.int .i64 x.Bill.Currency),.d (.int .i64 x.Bill.Tenor.Kind),.d (.int .i64 x.Bill.Tenor.N),.d (.int .i64 x.Bill.Tenor.Unit),.d (.int .i64 x.Bill.Day),.d (.int .i64 x.Bill.City),.d (.int .i64 x.Bill.Pay),.d (.int .i64 x.Bill.Need),.d (.int .i64 x.Bill.Rate),.d (.int .i64 x.Bill.Flags),.d (.int .i64 x.Bill.Parts),.d (.sl (cM aO.cells x.Signs)),.d (.sl (cM aZ.cells x.Alters)),.d (.sl (cM bB.cells x.Acts)),.d (.sl (cM bG.cells x.Facts))])) kw:=rfl
theorem aB.st_agg {β:Type} (x:aB) (y:List V) (sz off id:Nat) (kw:V→List (Nat × Option aX)→Option β):aP sz off id (.agg y) (some (.box (aC x.cells))) kw = aP sz off id (.agg y) (some (.box [.d (.int .i64 x.Bill.Drawer),.d (.int .i64 x.Bill.Drawee),.d (.int .i64 x.Bill.Payee),.d (.int .i64 x.Bill.Sum),.d (.int .i64 x.Bill.Currency),.d (.int .i64 x.Bill.Tenor.Kind),.d (.int .i64 x.Bill.Tenor.N),.d (.int .i64 x.Bill.Tenor.Unit),.d (.int .i64 x.Bill.Day),.d (.int .i64 x.Bill.City),.d (.int .i64 x.Bill.Pay),.d (.int .i64 x.Bill.Need),.d (.int .i64 x.Bill.Rate),.d (.int .i64 x.Bill.Flags),.d (.int .i64 x.Bill.Parts),.d (.sl (cM aO.cells x.Signs)),.d (.sl (cM aZ.cells x.Alters)),.d (.sl (cM bB.cells x.Acts)),.d (.sl (cM bG.cells x.Facts))])) kw:=rfl
theorem aB.st_ptr {β:Type} (x:aB) (i v:Nat) (sz off id:Nat) (kw:V→List (Nat × Option aX)→Option β):aP sz off id (.ptr i v) (some (.box (aC x.cells))) kw = aP sz off id (.ptr i v) (some (.box [.d (.int .i64 x.Bill.Drawer),.d (.int .i64 x.Bill.Drawee),.d (.int .i64 x.Bill.Payee),.d (.int .i64 x.Bill.Sum),.d (.int .i64 x.Bill.Currency),.d (.int .i64 x.Bill.Tenor.Kind),.d (.int .i64 x.Bill.Tenor.N),.d (.int .i64 x.Bill.Tenor.Unit),.d (.int .i64 x.Bill.Day),.d (.int .i64 x.Bill.City),.d (.int .i64 x.Bill.Pay),.d (.int .i64 x.Bill.Need),.d (.int .i64 x.Bill.Rate),.d (.int .i64 x.Bill.Flags),.d (.int .i64 x.Bill.Parts),.d (.sl (cM aO.cells x.Signs)),.d (.sl (cM aZ.cells x.Alters)),.d (.sl (cM bB.cells x.Acts)),.d (.sl (cM bG.cells x.Facts))])) kw:=rfl
theorem aB.part {β:Type} (x:aB) (off id:Nat) (b:Option aX) (kw:V→List (Nat × Option aX)→Option β):aP 19 (off + 1) id (cW x.cells) b kw = aP 19 (off + 1) id (.agg [.d (.int .i64 x.Bill.Drawer),.d (.int .i64 x.Bill.Drawee),.d (.int .i64 x.Bill.Payee),.d (.int .i64 x.Bill.Sum),.d (.int .i64 x.Bill.Currency),.d (.int .i64 x.Bill.Tenor.Kind),.d (.int .i64 x.Bill.Tenor.N),.d (.int .i64 x.Bill.Tenor.Unit),.d (.int .i64 x.Bill.Day),.d (.int .i64 x.Bill.City),.d (.int .i64 x.Bill.Pay),.d (.int .i64 x.Bill.Need),.d (.int .i64 x.Bill.Rate),.d (.int .i64 x.Bill.Flags),.d (.int .i64 x.Bill.Parts),.d (.sl (cM aO.cells x.Signs)),.d (.sl (cM aZ.cells x.Alters)),.d (.sl (cM bB.cells x.Acts)),.d (.sl (cM bG.cells x.Facts))]) b kw:=rfl
theorem aB.put {β:Type} (x:aB) (id:Nat) (cs:List V) (hc:cs.length = 19) (kw:V→List (Nat × Option aX)→Option β):aP 19 0 id (cW x.cells) (some (.box cs)) kw = kw .any [(id,some (.box (aC x.cells)))]:=cN 19 id _ rfl cs hc
theorem aB.rset {β:Type} (x:aB) (off:Nat) (d:D) (ds:List D) (n:Nat) (k:List D→Option β):bH x.cells off (d :: ds) n k = bH [.int .i64 x.Bill.Drawer,.int .i64 x.Bill.Drawee,.int .i64 x.Bill.Payee,.int .i64 x.Bill.Sum,.int .i64 x.Bill.Currency,.int .i64 x.Bill.Tenor.Kind,.int .i64 x.Bill.Tenor.N,.int .i64 x.Bill.Tenor.Unit,.int .i64 x.Bill.Day,.int .i64 x.Bill.City,.int .i64 x.Bill.Pay,.int .i64 x.Bill.Need,.int .i64 x.Bill.Rate,.int .i64 x.Bill.Flags,.int .i64 x.Bill.Parts,.sl (cM aO.cells x.Signs),.sl (cM aZ.cells x.Alters),.sl (cM bB.cells x.Acts),.sl (cM bG.cells x.Facts)] off (d :: ds) n k:=rfl
theorem aB.rfull {β:Type} (x y:aB) (k:List D→Option β):bH x.cells 0 y.cells 19 k = k y.cells:=by unfold bH; exact (if_pos ⟨rfl,Nat.le_refl _⟩).trans rfl
theorem aB.get0 {β:Type} (x:aB) (k:D→Option β):bK x.cells 0 k = k (.int .i64 x.Bill.Drawer):=rfl
theorem aB.get1 {β:Type} (x:aB) (k:D→Option β):bK x.cells 1 k = k (.int .i64 x.Bill.Drawee):=rfl
theorem aB.get2 {β:Type} (x:aB) (k:D→Option β):bK x.cells 2 k = k (.int .i64 x.Bill.Payee):=rfl
theorem aB.get3 {β:Type} (x:aB) (k:D→Option β):bK x.cells 3 k = k (.int .i64 x.Bill.Sum):=rfl
theorem aB.get4 {β:Type} (x:aB) (k:D→Option β):bK x.cells 4 k = k (.int .i64 x.Bill.Currency):=rfl
theorem aB.get5 {β:Type} (x:aB) (k:D→Option β):bK x.cells 5 k = k (.int .i64 x.Bill.Tenor.Kind):=rfl
theorem aB.get6 {β:Type} (x:aB) (k:D→Option β):bK x.cells 6 k = k (.int .i64 x.Bill.Tenor.N):=rfl
theorem aB.get7 {β:Type} (x:aB) (k:D→Option β):bK x.cells 7 k = k (.int .i64 x.Bill.Tenor.Unit):=rfl
theorem aB.get8 {β:Type} (x:aB) (k:D→Option β):bK x.cells 8 k = k (.int .i64 x.Bill.Day):=rfl
theorem aB.get9 {β:Type} (x:aB) (k:D→Option β):bK x.cells 9 k = k (.int .i64 x.Bill.City):=rfl
theorem aB.get10 {β:Type} (x:aB) (k:D→Option β):bK x.cells 10 k = k (.int .i64 x.Bill.Pay):=rfl
theorem aB.get11 {β:Type} (x:aB) (k:D→Option β):bK x.cells 11 k = k (.int .i64 x.Bill.Need):=rfl
theorem aB.get12 {β:Type} (x:aB) (k:D→Option β):bK x.cells 12 k = k (.int .i64 x.Bill.Rate):=rfl
theorem aB.get13 {β:Type} (x:aB) (k:D→Option β):bK x.cells 13 k = k (.int .i64 x.Bill.Flags):=rfl
theorem aB.get14 {β:Type} (x:aB) (k:D→Option β):bK x.cells 14 k = k (.int .i64 x.Bill.Parts):=rfl
theorem aB.get15 {β:Type} (x:aB) (k:D→Option β):bK x.cells 15 k = k (.sl (cM aO.cells x.Signs)):=rfl
theorem aB.get16 {β:Type} (x:aB) (k:D→Option β):bK x.cells 16 k = k (.sl (cM aZ.cells x.Alters)):=rfl
theorem aB.get17 {β:Type} (x:aB) (k:D→Option β):bK x.cells 17 k = k (.sl (cM bB.cells x.Acts)):=rfl
theorem aB.get18 {β:Type} (x:aB) (k:D→Option β):bK x.cells 18 k = k (.sl (cM bG.cells x.Facts)):=rfl
theorem aB.sub0_19 {β:Type} (x:aB) (k:List D→Option β):iG x.cells 0 19 k = k x.cells:=rfl
theorem aB.sub0_15 {β:Type} (x:aB) (k:List D→Option β):iG x.cells 0 15 k = k (bD.cells x.Bill):=rfl
theorem aB.sub5_3 {β:Type} (x:aB) (k:List D→Option β):iG x.cells 5 3 k = k (bS.cells x.Bill.Tenor):=rfl
theorem aB.cells_mk (f0:bD) (f1:List aO) (f2:List aZ) (f3:List bB) (f4:List bG):aB.cells (aB.mk f0 f1 f2 f3 f4) = [.int .i64 f0.Drawer,.int .i64 f0.Drawee,.int .i64 f0.Payee,.int .i64 f0.Sum,.int .i64 f0.Currency,.int .i64 f0.Tenor.Kind,.int .i64 f0.Tenor.N,.int .i64 f0.Tenor.Unit,.int .i64 f0.Day,.int .i64 f0.City,.int .i64 f0.Pay,.int .i64 f0.Need,.int .i64 f0.Rate,.int .i64 f0.Flags,.int .i64 f0.Parts,.sl (cM aO.cells f1),.sl (cM aZ.cells f2),.sl (cM bB.cells f3),.sl (cM bG.cells f4)]:=rfl
structure a7 where
 File:aB
 Sign:Int
 Holder:Int
 Defence:Int
 Due:Int
 Day:Int
 deriving Inhabited
def a7.cells (x:a7):List D:=[.int .i64 x.File.Bill.Drawer,.int .i64 x.File.Bill.Drawee,.int .i64 x.File.Bill.Payee,.int .i64 x.File.Bill.Sum,.int .i64 x.File.Bill.Currency,.int .i64 x.File.Bill.Tenor.Kind,.int .i64 x.File.Bill.Tenor.N,.int .i64 x.File.Bill.Tenor.Unit,.int .i64 x.File.Bill.Day,.int .i64 x.File.Bill.City,.int .i64 x.File.Bill.Pay,.int .i64 x.File.Bill.Need,.int .i64 x.File.Bill.Rate,.int .i64 x.File.Bill.Flags,.int .i64 x.File.Bill.Parts,.sl (cM aO.cells x.File.Signs),.sl (cM aZ.cells x.File.Alters),.sl (cM bB.cells x.File.Acts),.sl (cM bG.cells x.File.Facts),.int .i64 x.Sign,.int .i64 x.Holder,.int .i64 x.Defence,.int .i64 x.Due,.int .i64 x.Day]
theorem a7.sized (xs:List a7):sized 24 (cM a7.cells xs) = true:=fA _ _ (fun x=>by rfl) xs
theorem a7.len (x:a7):x.cells.length = 24:=rfl
theorem a7.size {β:Type} (x:a7) (y:Option β):gP x.cells 24 y = y:=rfl
theorem a7.eq1 {β:Type} (x:a7) (ks:List Nat) (ys:List V) (k:Bool→Option β):dG ks (aC x.cells) ys k = dG ks [.d (.int .i64 x.File.Bill.Drawer),.d (.int .i64 x.File.Bill.Drawee),.d (.int .i64 x.File.Bill.Payee),.d (.int .i64 x.File.Bill.Sum),.d (.int .i64 x.File.Bill.Currency),.d (.int .i64 x.File.Bill.Tenor.Kind),.d (.int .i64 x.File.Bill.Tenor.N),.d (.int .i64 x.File.Bill.Tenor.Unit),.d (.int .i64 x.File.Bill.Day),.d (.int .i64 x.File.Bill.City),.d (.int .i64 x.File.Bill.Pay),.d (.int .i64 x.File.Bill.Need),.d (.int .i64 x.File.Bill.Rate),.d (.int .i64 x.File.Bill.Flags),.d (.int .i64 x.File.Bill.Parts),.d (.sl (cM aO.cells x.File.Signs)),.d (.sl (cM aZ.cells x.File.Alters)),.d (.sl (cM bB.cells x.File.Acts)),.d (.sl (cM bG.cells x.File.Facts)),.d (.int .i64 x.Sign),.d (.int .i64 x.Holder),.d (.int .i64 x.Defence),.d (.int .i64 x.Due),.d (.int .i64 x.Day)] ys k:=rfl
theorem a7.eq2 {β:Type} (x:a7) (ks:List Nat) (ys:List V) (k:Bool→Option β):dG ks ys (aC x.cells) k = dG ks ys [.d (.int .i64 x.File.Bill.Drawer),.d (.int .i64 x.File.Bill.Drawee),.d (.int .i64 x.File.Bill.Payee),.d (.int .i64 x.File.Bill.Sum),.d (.int .i64 x.File.Bill.Currency),.d (.int .i64 x.File.Bill.Tenor.Kind),.d (.int .i64 x.File.Bill.Tenor.N),.d (.int .i64 x.File.Bill.Tenor.Unit),.d (.int .i64 x.File.Bill.Day),.d (.int .i64 x.File.Bill.City),.d (.int .i64 x.File.Bill.Pay),.d (.int .i64 x.File.Bill.Need),.d (.int .i64 x.File.Bill.Rate),.d (.int .i64 x.File.Bill.Flags),.d (.int .i64 x.File.Bill.Parts),.d (.sl (cM aO.cells x.File.Signs)),.d (.sl (cM aZ.cells x.File.Alters)),.d (.sl (cM bB.cells x.File.Acts)),.d (.sl (cM bG.cells x.File.Facts)),.d (.int .i64 x.Sign),.d (.int .i64 x.Holder),.d (.int .i64 x.Defence),.d (.int .i64 x.Due),.d (.int .i64 x.Day)] k:=rfl
theorem a7.lens {β:Type} (x:a7) (y:Option β):kW (aC x.cells) 24 y = y:=rfl
theorem a7.vsets {β:Type} (x:a7) (z:List V) (o:Nat) (k:List V→Option β):dA z o (aC x.cells) k = dA z o [.d (.int .i64 x.File.Bill.Drawer),.d (.int .i64 x.File.Bill.Drawee),.d (.int .i64 x.File.Bill.Payee),.d (.int .i64 x.File.Bill.Sum),.d (.int .i64 x.File.Bill.Currency),.d (.int .i64 x.File.Bill.Tenor.Kind),.d (.int .i64 x.File.Bill.Tenor.N),.d (.int .i64 x.File.Bill.Tenor.Unit),.d (.int .i64 x.File.Bill.Day),.d (.int .i64 x.File.Bill.City),.d (.int .i64 x.File.Bill.Pay),.d (.int .i64 x.File.Bill.Need),.d (.int .i64 x.File.Bill.Rate),.d (.int .i64 x.File.Bill.Flags),.d (.int .i64 x.File.Bill.Parts),.d (.sl (cM aO.cells x.File.Signs)),.d (.sl (cM aZ.cells x.File.Alters)),.d (.sl (cM bB.cells x.File.Acts)),.d (.sl (cM bG.cells x.File.Facts)),.d (.int .i64 x.Sign),.d (.int .i64 x.Holder),.d (.int .i64 x.Defence),.d (.int .i64 x.Due),.d (.int .i64 x.Day)] k:=rfl
theorem a7.st_d {β:Type} (x:a7) (y:D) (sz off id:Nat) (kw:V→List (Nat × Option aX)→Option β):aP sz off id (.d y) (some (.box (aC x.cells))) kw = aP sz off id (.d y) (some (.box [.d (.int .i64 x.File.Bill.Drawer),.d (.int .i64 x.File.Bill.Drawee),.d (.int .i64 x.File.Bill.Payee),.d (.int .i64 x.File.Bill.Sum),.d (.int .i64 x.File.Bill.Currency),.d (.int .i64 x.File.Bill.Tenor.Kind),.d (.int .i64 x.File.Bill.Tenor.N),.d (.int .i64 x.File.Bill.Tenor.Unit),.d (.int .i64 x.File.Bill.Day),.d (.int .i64 x.File.Bill.City),.d (.int .i64 x.File.Bill.Pay),.d (.int .i64 x.File.Bill.Need),.d (.int .i64 x.File.Bill.Rate),.d (.int .i64 x.File.Bill.Flags),.d (.int .i64 x.File.Bill.Parts),.d (.sl (cM aO.cells x.File.Signs)),.d (.sl (cM aZ.cells x.File.Alters)),.d (.sl (cM bB.cells x.File.Acts)),.d (.sl (cM bG.cells x.File.Facts)),.d (.int .i64 x.Sign),.d (.int .i64 x.Holder),.d (.int .i64 x.Defence),.d (.int .i64 x.Due),.d (.int .i64 x.Day)])) kw:=rfl
theorem a7.st_agg {β:Type} (x:a7) (y:List V) (sz off id:Nat) (kw:V→List (Nat × Option aX)→Option β):aP sz off id (.agg y) (some (.box (aC x.cells))) kw = aP sz off id (.agg y) (some (.box [.d (.int .i64 x.File.Bill.Drawer),.d (.int .i64 x.File.Bill.Drawee),.d (.int .i64 x.File.Bill.Payee),.d (.int .i64 x.File.Bill.Sum),.d (.int .i64 x.File.Bill.Currency),.d (.int .i64 x.File.Bill.Tenor.Kind),.d (.int .i64 x.File.Bill.Tenor.N),.d (.int .i64 x.File.Bill.Tenor.Unit),.d (.int .i64 x.File.Bill.Day),.d (.int .i64 x.File.Bill.City),.d (.int .i64 x.File.Bill.Pay),.d (.int .i64 x.File.Bill.Need),.d (.int .i64 x.File.Bill.Rate),.d (.int .i64 x.File.Bill.Flags),.d (.int .i64 x.File.Bill.Parts),.d (.sl (cM aO.cells x.File.Signs)),.d (.sl (cM aZ.cells x.File.Alters)),.d (.sl (cM bB.cells x.File.Acts)),.d (.sl (cM bG.cells x.File.Facts)),.d (.int .i64 x.Sign),.d (.int .i64 x.Holder),.d (.int .i64 x.Defence),.d (.int .i64 x.Due),.d (.int .i64 x.Day)])) kw:=rfl
theorem a7.part {β:Type} (x:a7) (off id:Nat) (b:Option aX) (kw:V→List (Nat × Option aX)→Option β):aP 24 (off + 1) id (cW x.cells) b kw = aP 24 (off + 1) id (.agg [.d (.int .i64 x.File.Bill.Drawer),.d (.int .i64 x.File.Bill.Drawee),.d (.int .i64 x.File.Bill.Payee),.d (.int .i64 x.File.Bill.Sum),.d (.int .i64 x.File.Bill.Currency),.d (.int .i64 x.File.Bill.Tenor.Kind),.d (.int .i64 x.File.Bill.Tenor.N),.d (.int .i64 x.File.Bill.Tenor.Unit),.d (.int .i64 x.File.Bill.Day),.d (.int .i64 x.File.Bill.City),.d (.int .i64 x.File.Bill.Pay),.d (.int .i64 x.File.Bill.Need),.d (.int .i64 x.File.Bill.Rate),.d (.int .i64 x.File.Bill.Flags),.d (.int .i64 x.File.Bill.Parts),.d (.sl (cM aO.cells x.File.Signs)),.d (.sl (cM aZ.cells x.File.Alters)),.d (.sl (cM bB.cells x.File.Acts)),.d (.sl (cM bG.cells x.File.Facts)),.d (.int .i64 x.Sign),.d (.int .i64 x.Holder),.d (.int .i64 x.Defence),.d (.int .i64 x.Due),.d (.int .i64 x.Day)]) b kw:=rfl
theorem a7.put {β:Type} (x:a7) (id:Nat) (cs:List V) (hc:cs.length = 24) (kw:V→List (Nat × Option aX)→Option β):aP 24 0 id (cW x.cells) (some (.box cs)) kw = kw .any [(id,some (.box (aC x.cells)))]:=cN 24 id _ rfl cs hc
theorem a7.rset {β:Type} (x:a7) (off:Nat) (d:D) (ds:List D) (n:Nat) (k:List D→Option β):bH x.cells off (d :: ds) n k = bH [.int .i64 x.File.Bill.Drawer,.int .i64 x.File.Bill.Drawee,.int .i64 x.File.Bill.Payee,.int .i64 x.File.Bill.Sum,.int .i64 x.File.Bill.Currency,.int .i64 x.File.Bill.Tenor.Kind,.int .i64 x.File.Bill.Tenor.N,.int .i64 x.File.Bill.Tenor.Unit,.int .i64 x.File.Bill.Day,.int .i64 x.File.Bill.City,.int .i64 x.File.Bill.Pay,.int .i64 x.File.Bill.Need,.int .i64 x.File.Bill.Rate,.int .i64 x.File.Bill.Flags,.int .i64 x.File.Bill.Parts,.sl (cM aO.cells x.File.Signs),.sl (cM aZ.cells x.File.Alters),.sl (cM bB.cells x.File.Acts),.sl (cM bG.cells x.File.Facts),.int .i64 x.Sign,.int .i64 x.Holder,.int .i64 x.Defence,.int .i64 x.Due,.int .i64 x.Day] off (d :: ds) n k:=rfl
theorem a7.rfull {β:Type} (x y:a7) (k:List D→Option β):bH x.cells 0 y.cells 24 k = k y.cells:=by unfold bH; exact (if_pos ⟨rfl,Nat.le_refl _⟩).trans rfl
theorem a7.get0 {β:Type} (x:a7) (k:D→Option β):bK x.cells 0 k = k (.int .i64 x.File.Bill.Drawer):=rfl
theorem a7.get1 {β:Type} (x:a7) (k:D→Option β):bK x.cells 1 k = k (.int .i64 x.File.Bill.Drawee):=rfl
theorem a7.get2 {β:Type} (x:a7) (k:D→Option β):bK x.cells 2 k = k (.int .i64 x.File.Bill.Payee):=rfl
theorem a7.get3 {β:Type} (x:a7) (k:D→Option β):bK x.cells 3 k = k (.int .i64 x.File.Bill.Sum):=rfl
theorem a7.get4 {β:Type} (x:a7) (k:D→Option β):bK x.cells 4 k = k (.int .i64 x.File.Bill.Currency):=rfl
theorem a7.get5 {β:Type} (x:a7) (k:D→Option β):bK x.cells 5 k = k (.int .i64 x.File.Bill.Tenor.Kind):=rfl
theorem a7.get6 {β:Type} (x:a7) (k:D→Option β):bK x.cells 6 k = k (.int .i64 x.File.Bill.Tenor.N):=rfl
theorem a7.get7 {β:Type} (x:a7) (k:D→Option β):bK x.cells 7 k = k (.int .i64 x.File.Bill.Tenor.Unit):=rfl
theorem a7.get8 {β:Type} (x:a7) (k:D→Option β):bK x.cells 8 k = k (.int .i64 x.File.Bill.Day):=rfl
theorem a7.get9 {β:Type} (x:a7) (k:D→Option β):bK x.cells 9 k = k (.int .i64 x.File.Bill.City):=rfl
theorem a7.get10 {β:Type} (x:a7) (k:D→Option β):bK x.cells 10 k = k (.int .i64 x.File.Bill.Pay):=rfl
theorem a7.get11 {β:Type} (x:a7) (k:D→Option β):bK x.cells 11 k = k (.int .i64 x.File.Bill.Need):=rfl
theorem a7.get12 {β:Type} (x:a7) (k:D→Option β):bK x.cells 12 k = k (.int .i64 x.File.Bill.Rate):=rfl
theorem a7.get13 {β:Type} (x:a7) (k:D→Option β):bK x.cells 13 k = k (.int .i64 x.File.Bill.Flags):=rfl
theorem a7.get14 {β:Type} (x:a7) (k:D→Option β):bK x.cells 14 k = k (.int .i64 x.File.Bill.Parts):=rfl
theorem a7.get15 {β:Type} (x:a7) (k:D→Option β):bK x.cells 15 k = k (.sl (cM aO.cells x.File.Signs)):=rfl
theorem a7.get16 {β:Type} (x:a7) (k:D→Option β):bK x.cells 16 k = k (.sl (cM aZ.cells x.File.Alters)):=rfl
theorem a7.get17 {β:Type} (x:a7) (k:D→Option β):bK x.cells 17 k = k (.sl (cM bB.cells x.File.Acts)):=rfl
theorem a7.get18 {β:Type} (x:a7) (k:D→Option β):bK x.cells 18 k = k (.sl (cM bG.cells x.File.Facts)):=rfl
theorem a7.get19 {β:Type} (x:a7) (k:D→Option β):bK x.cells 19 k = k (.int .i64 x.Sign):=rfl
theorem a7.get20 {β:Type} (x:a7) (k:D→Option β):bK x.cells 20 k = k (.int .i64 x.Holder):=rfl
theorem a7.get21 {β:Type} (x:a7) (k:D→Option β):bK x.cells 21 k = k (.int .i64 x.Defence):=rfl
theorem a7.get22 {β:Type} (x:a7) (k:D→Option β):bK x.cells 22 k = k (.int .i64 x.Due):=rfl
theorem a7.get23 {β:Type} (x:a7) (k:D→Option β):bK x.cells 23 k = k (.int .i64 x.Day):=rfl
theorem a7.sub0_24 {β:Type} (x:a7) (k:List D→Option β):iG x.cells 0 24 k = k x.cells:=rfl
theorem a7.sub0_19 {β:Type} (x:a7) (k:List D→Option β):iG x.cells 0 19 k = k (aB.cells x.File):=rfl
theorem a7.sub0_15 {β:Type} (x:a7) (k:List D→Option β):iG x.cells 0 15 k = k (bD.cells x.File.Bill):=rfl
theorem a7.sub5_3 {β:Type} (x:a7) (k:List D→Option β):iG x.cells 5 3 k = k (bS.cells x.File.Bill.Tenor):=rfl
theorem a7.cells_mk (f0:aB) (f1:Int) (f2:Int) (f3:Int) (f4:Int) (f5:Int):a7.cells (a7.mk f0 f1 f2 f3 f4 f5) = [.int .i64 f0.Bill.Drawer,.int .i64 f0.Bill.Drawee,.int .i64 f0.Bill.Payee,.int .i64 f0.Bill.Sum,.int .i64 f0.Bill.Currency,.int .i64 f0.Bill.Tenor.Kind,.int .i64 f0.Bill.Tenor.N,.int .i64 f0.Bill.Tenor.Unit,.int .i64 f0.Bill.Day,.int .i64 f0.Bill.City,.int .i64 f0.Bill.Pay,.int .i64 f0.Bill.Need,.int .i64 f0.Bill.Rate,.int .i64 f0.Bill.Flags,.int .i64 f0.Bill.Parts,.sl (cM aO.cells f0.Signs),.sl (cM aZ.cells f0.Alters),.sl (cM bB.cells f0.Acts),.sl (cM bG.cells f0.Facts),.int .i64 f1,.int .i64 f2,.int .i64 f3,.int .i64 f4,.int .i64 f5]:=rfl
structure aY where
 Known:Bool
 N:Int
 deriving Inhabited
def aY.cells (x:aY):List D:=[.bool x.Known,.int .i64 x.N]
theorem aY.sized (xs:List aY):sized 2 (cM aY.cells xs) = true:=fA _ _ (fun x=>by rfl) xs
theorem aY.len (x:aY):x.cells.length = 2:=rfl
theorem aY.size {β:Type} (x:aY) (y:Option β):gP x.cells 2 y = y:=rfl
theorem aY.eq1 {β:Type} (x:aY) (ks:List Nat) (ys:List V) (k:Bool→Option β):dG ks (aC x.cells) ys k = dG ks [.d (.bool x.Known),.d (.int .i64 x.N)] ys k:=rfl
theorem aY.eq2 {β:Type} (x:aY) (ks:List Nat) (ys:List V) (k:Bool→Option β):dG ks ys (aC x.cells) k = dG ks ys [.d (.bool x.Known),.d (.int .i64 x.N)] k:=rfl
theorem aY.lens {β:Type} (x:aY) (y:Option β):kW (aC x.cells) 2 y = y:=rfl
theorem aY.vsets {β:Type} (x:aY) (z:List V) (o:Nat) (k:List V→Option β):dA z o (aC x.cells) k = dA z o [.d (.bool x.Known),.d (.int .i64 x.N)] k:=rfl
theorem aY.st_d {β:Type} (x:aY) (y:D) (sz off id:Nat) (kw:V→List (Nat × Option aX)→Option β):aP sz off id (.d y) (some (.box (aC x.cells))) kw = aP sz off id (.d y) (some (.box [.d (.bool x.Known),.d (.int .i64 x.N)])) kw:=rfl
theorem aY.st_agg {β:Type} (x:aY) (y:List V) (sz off id:Nat) (kw:V→List (Nat × Option aX)→Option β):aP sz off id (.agg y) (some (.box (aC x.cells))) kw = aP sz off id (.agg y) (some (.box [.d (.bool x.Known),.d (.int .i64 x.N)])) kw:=rfl
theorem aY.part {β:Type} (x:aY) (off id:Nat) (b:Option aX) (kw:V→List (Nat × Option aX)→Option β):aP 2 (off + 1) id (cW x.cells) b kw = aP 2 (off + 1) id (.agg [.d (.bool x.Known),.d (.int .i64 x.N)]) b kw:=rfl
theorem aY.put {β:Type} (x:aY) (id:Nat) (cs:List V) (hc:cs.length = 2) (kw:V→List (Nat × Option aX)→Option β):aP 2 0 id (cW x.cells) (some (.box cs)) kw = kw .any [(id,some (.box (aC x.cells)))]:=cN 2 id _ rfl cs hc
theorem aY.rset {β:Type} (x:aY) (off:Nat) (d:D) (ds:List D) (n:Nat) (k:List D→Option β):bH x.cells off (d :: ds) n k = bH [.bool x.Known,.int .i64 x.N] off (d :: ds) n k:=rfl
theorem aY.rfull {β:Type} (x y:aY) (k:List D→Option β):bH x.cells 0 y.cells 2 k = k y.cells:=by unfold bH; exact (if_pos ⟨rfl,Nat.le_refl _⟩).trans rfl
theorem aY.get0 {β:Type} (x:aY) (k:D→Option β):bK x.cells 0 k = k (.bool x.Known):=rfl
theorem aY.get1 {β:Type} (x:aY) (k:D→Option β):bK x.cells 1 k = k (.int .i64 x.N):=rfl
theorem aY.sub0_2 {β:Type} (x:aY) (k:List D→Option β):iG x.cells 0 2 k = k x.cells:=rfl
theorem aY.cells_mk (f0:Bool) (f1:Int):aY.cells (aY.mk f0 f1) = [.bool f0,.int .i64 f1]:=rfl
theorem aIk {β:Type} (x:Int) (k:D→Option β):bK (cI x) 0 k = k (.int .i64 x):=rfl
theorem aFc {β:Type} (x:Int) (off:Nat) (d:D) (ds:List D) (n:Nat) (k:List D→Option β):bH (cI x) off (d :: ds) n k = bH [.int .i64 x] off (d :: ds) n k:=rfl
theorem aGj {β:Type} (x:Int) (y:Option β):gP (cI x) 1 y = y:=rfl
theorem aH2 {β:Type} (x:Bool) (k:D→Option β):bK (cB x) 0 k = k (.bool x):=rfl
theorem aFI {β:Type} (x:Bool) (off:Nat) (d:D) (ds:List D) (n:Nat) (k:List D→Option β):bH (cB x) off (d :: ds) n k = bH [.bool x] off (d :: ds) n k:=rfl
theorem aF2 {β:Type} (x:Bool) (y:Option β):gP (cB x) 1 y = y:=rfl
theorem aIo {β:Type} (x:ByteArray) (k:D→Option β):bK (cS x) 0 k = k (.str x):=rfl
theorem aFL {β:Type} (x:ByteArray) (off:Nat) (d:D) (ds:List D) (n:Nat) (k:List D→Option β):bH (cS x) off (d :: ds) n k = bH [.str x] off (d :: ds) n k:=rfl
theorem aD3 {β:Type} (x:ByteArray) (y:Option β):gP (cS x) 1 y = y:=rfl
theorem aD7 {β:Type} (x0:D) (y:Option β):gP [x0] 1 y = y:=rfl
theorem aFA {β:Type} (x0 x1:D) (y:Option β):gP [x0,x1] 2 y = y:=rfl
theorem aGA {β:Type} (x0 x1 x2:D) (y:Option β):gP [x0,x1,x2] 3 y = y:=rfl
theorem aGV {β:Type} (x0 x1 x2 x3:D) (y:Option β):gP [x0,x1,x2,x3] 4 y = y:=rfl
theorem aES {β:Type} (x0 x1 x2 x3 x4:D) (y:Option β):gP [x0,x1,x2,x3,x4] 5 y = y:=rfl
theorem aEU {β:Type} (x0 x1 x2 x3 x4 x5:D) (y:Option β):gP [x0,x1,x2,x3,x4,x5] 6 y = y:=rfl
theorem aFZ {β:Type} (x0 x1 x2 x3 x4 x5 x6 x7:D) (y:Option β):gP [x0,x1,x2,x3,x4,x5,x6,x7] 8 y = y:=rfl
theorem aG3 {β:Type} (x0 x1 x2 x3 x4 x5 x6 x7 x8:D) (y:Option β):gP [x0,x1,x2,x3,x4,x5,x6,x7,x8] 9 y = y:=rfl
theorem aB3 {β:Type} (x0 x1 x2 x3 x4 x5 x6 x7 x8 x9 x10 x11 x12 x13 x14:D) (y:Option β):gP [x0,x1,x2,x3,x4,x5,x6,x7,x8,x9,x10,x11,x12,x13,x14] 15 y = y:=rfl
theorem aIE {β:Type} (i:IntKind) (x:Int) (k:D→Option β):bK (cK i x) 0 k = k (.int i x):=rfl
theorem aFh {β:Type} (i:IntKind) (x:Int) (off:Nat) (d:D) (ds:List D) (n:Nat) (k:List D→Option β):bH (cK i x) off (d :: ds) n k = bH [.int i x] off (d :: ds) n k:=rfl
theorem aFq {β α:Type} (c:α→List D) (x:List α) (off:Nat) (d:D) (ds:List D) (n:Nat) (k:List D→Option β):bH (cL c x) off (d :: ds) n k = bH [.sl (cM c x)] off (d :: ds) n k:=rfl
theorem aGw {β:Type} (i:IntKind) (x:Int) (y:Option β):gP (cK i x) 1 y = y:=rfl
theorem aIK {β α:Type} (c:α→List D) (x:List α) (k:D→Option β):bK (cL c x) 0 k = k (.sl (cM c x)):=rfl
theorem aGa {β α:Type} (c:α→List D) (x:List α) (y:Option β):gP (cL c x) 1 y = y:=rfl
theorem I5 {β:Type} {fr:List (Nat × V)} (k t:Nat) (l:List (Nat × Nat)) (xs:List aY) (g:List (List D)→Option β):wO B3 fr ((k,t) :: l) (cM aY.cells xs) g = mK fr t fun v=>aGm v fun n=>if k < xs.length then wO B3 fr l (cM aY.cells (xs.set k (aY.mk true (if n = true then 1 else 0)))) g else none:=aJU aY.cells (fun n=>aY.mk true n) (fun _=>rfl) k t l xs g
theorem J6 {β:Type} {fr:List (Nat × V)} (k t:Nat) (l:List (Nat × Nat)) (xs:List aY) (g:List (List D)→Option β):wO CK fr ((k,t) :: l) (cM aY.cells xs) g = mK fr t fun v=>aFJ v fun n=>if k < xs.length then wO CK fr l (cM aY.cells (xs.set k (aY.mk true n))) g else none:=aJX aY.cells (fun n=>aY.mk true n) (fun _=>rfl) k t l xs g
theorem Q4 {β:Type} {T:AC} {d:Nat} {fr:List (Nat × V)} {bl:List (Nat × Option aX)} {k:V→Option β} {kw:V→List (Nat × Option aX)→Option β} (l cp:cY):sE T d (.makeSlice 49 2 16 [.bool false,.int .i64 0] l cp) fr bl k kw = eD bl d fun b=>vC b (dH fr l fun a=>dH fr cp fun b=>aIx 16 a b fun n=>kw (.own d 0) [(d,some (.rows 0 49 2 (cM aY.cells (List.replicate n (aY.mk false 0)))))]):=aJ5 49 2 16 [.bool false,.int .i64 0] aY.cells ((aY.mk false 0):aY) rfl l cp
theorem I8 {β:Type} (a0_0:Int) (k:List (List D)→Option β):F2 113 [[.int .i64 a0_0]] k = k (cM bN.cells ([(bN.mk a0_0)]:List bN)):=rfl
theorem E0 {β:Type} (a0_0:ByteArray) (a0_1:Int) (a0_2:Int) (a1_0:ByteArray) (a1_1:Int) (a1_2:Int) (a2_0:ByteArray) (a2_1:Int) (a2_2:Int) (a3_0:ByteArray) (a3_1:Int) (a3_2:Int) (k:List (List D)→Option β):F2 115 [[.str a0_0,.int .i64 a0_1,.int .i64 a0_2],[.str a1_0,.int .i64 a1_1,.int .i64 a1_2],[.str a2_0,.int .i64 a2_1,.int .i64 a2_2],[.str a3_0,.int .i64 a3_1,.int .i64 a3_2]] k = k (cM bU.cells ([(bU.mk a0_0 a0_1 a0_2),(bU.mk a1_0 a1_1 a1_2),(bU.mk a2_0 a2_1 a2_2),(bU.mk a3_0 a3_1 a3_2)]:List bU)):=rfl
theorem RG {β:Type} (k:List (List D)→Option β):F2 3 [] k = k (cM cI ([]:List Int)):=rfl
theorem LZ {β:Type} (a0:Int) (a1:Int) (k:List (List D)→Option β):F2 3 [[.int .i64 a0],[.int .i64 a1]] k = k (cM cI ([a0,a1]:List Int)):=rfl
theorem IB {β:Type} (a0:Int) (a1:Int) (a2:Int) (a3:Int) (k:List (List D)→Option β):F2 3 [[.int .i64 a0],[.int .i64 a1],[.int .i64 a2],[.int .i64 a3]] k = k (cM cI ([a0,a1,a2,a3]:List Int)):=rfl
theorem N5 {β:Type} (a0:Int) (k:List (List D)→Option β):F2 3 [[.int .i64 a0]] k = k (cM cI ([a0]:List Int)):=rfl
theorem OQ {β:Type} (k:List (List D)→Option β):F2 49 [] k = k (cM aY.cells ([]:List aY)):=rfl
theorem N6 {β:Type} (k:List (List D)→Option β):F2 58 [] k = k (cM bG.cells ([]:List bG)):=rfl
theorem L2 {β:Type} (a0_0:Int) (a0_1:Int) (a0_2:Int) (k:List (List D)→Option β):F2 58 [[.int .i64 a0_0,.int .i64 a0_1,.int .i64 a0_2]] k = k (cM bG.cells ([(bG.mk a0_0 a0_1 a0_2)]:List bG)):=rfl
theorem L0 {β:Type} (a0:bG) (k:List (List D)→Option β):F2 58 [bG.cells a0] k = k (cM bG.cells ([a0]:List bG)):=rfl
theorem N9 {β:Type} (k:List (List D)→Option β):F2 66 [] k = k (cM aO.cells ([]:List aO)):=rfl
theorem IM {β:Type} (a0_0:Int) (a0_1:Int) (a0_2:Int) (a0_3:Int) (a0_4:Int) (a0_5:Int) (a0_6:Int) (a0_7:Int) (a0_8:Int) (a1_0:Int) (a1_1:Int) (a1_2:Int) (a1_3:Int) (a1_4:Int) (a1_5:Int) (a1_6:Int) (a1_7:Int) (a1_8:Int) (a2_0:Int) (a2_1:Int) (a2_2:Int) (a2_3:Int) (a2_4:Int) (a2_5:Int) (a2_6:Int) (a2_7:Int) (a2_8:Int) (k:List (List D)→Option β):F2 66 [[.int .i64 a0_0,.int .i64 a0_1,.int .i64 a0_2,.int .i64 a0_3,.int .i64 a0_4,.int .i64 a0_5,.int .i64 a0_6,.int .i64 a0_7,.int .i64 a0_8],[.int .i64 a1_0,.int .i64 a1_1,.int .i64 a1_2,.int .i64 a1_3,.int .i64 a1_4,.int .i64 a1_5,.int .i64 a1_6,.int .i64 a1_7,.int .i64 a1_8],[.int .i64 a2_0,.int .i64 a2_1,.int .i64 a2_2,.int .i64 a2_3,.int .i64 a2_4,.int .i64 a2_5,.int .i64 a2_6,.int .i64 a2_7,.int .i64 a2_8]] k = k (cM aO.cells ([(aO.mk a0_0 a0_1 a0_2 a0_3 a0_4 a0_5 a0_6 a0_7 a0_8),(aO.mk a1_0 a1_1 a1_2 a1_3 a1_4 a1_5 a1_6 a1_7 a1_8),(aO.mk a2_0 a2_1 a2_2 a2_3 a2_4 a2_5 a2_6 a2_7 a2_8)]:List aO)):=rfl
theorem LQ {β:Type} (a0:aO) (k:List (List D)→Option β):F2 66 [aO.cells a0] k = k (cM aO.cells ([a0]:List aO)):=rfl
theorem OE {β:Type} (k:List (List D)→Option β):F2 72 [] k = k (cM aZ.cells ([]:List aZ)):=rfl
theorem LL {β:Type} (a0:aZ) (k:List (List D)→Option β):F2 72 [aZ.cells a0] k = k (cM aZ.cells ([a0]:List aZ)):=rfl
theorem OS {β:Type} (k:List (List D)→Option β):F2 81 [] k = k (cM bB.cells ([]:List bB)):=rfl
theorem LH {β:Type} (a0_0:Int) (a0_1:Int) (a0_2:Int) (a0_3:Int) (a0_4:Int) (a0_5:Int) (a0_6:Int) (a0_7:Int) (a0_8:Int) (k:List (List D)→Option β):F2 81 [[.int .i64 a0_0,.int .i64 a0_1,.int .i64 a0_2,.int .i64 a0_3,.int .i64 a0_4,.int .i64 a0_5,.int .i64 a0_6,.int .i64 a0_7,.int .i64 a0_8]] k = k (cM bB.cells ([(bB.mk a0_0 a0_1 a0_2 a0_3 a0_4 a0_5 a0_6 a0_7 a0_8)]:List bB)):=rfl
theorem LO {β:Type} (a0:bB) (k:List (List D)→Option β):F2 81 [bB.cells a0] k = k (cM bB.cells ([a0]:List bB)):=rfl
theorem D7 {β:Type} (a0_0:ByteArray) (a0_1:Int) (a0_2:Int) (k:List (List D)→Option β):F2 87 [[.str a0_0,.int .i64 a0_1,.int .i64 a0_2,.sl [],.sl [],.sl []]] k = k (cM bJ.cells ([(bJ.mk a0_0 a0_1 a0_2 [] [] [])]:List bJ)):=rfl
theorem PB {β:Type} (k:List (List D)→Option β):F2 9 [] k = k (cM cS ([]:List ByteArray)):=rfl
theorem NZ {β:Type} (a0:ByteArray) (k:List (List D)→Option β):F2 9 [[.str a0]] k = k (cM cS ([a0]:List ByteArray)):=rfl
theorem GP {β:Type} (a0_0:ByteArray) (a0_1:Bool) (k:List (List D)→Option β):F2 91 [[.str a0_0,.bool a0_1,.sl [],.sl []]] k = k (cM bC.cells ([(bC.mk a0_0 a0_1 [] [])]:List bC)):=rfl
theorem QN {β:Type} (xs:List aY) (i:Nat) (a_0:Bool) (a_1:Int) (k:List (List D)→Option β):B1 49 (cM aY.cells xs) i [.bool a_0,.int .i64 a_1] k = k (cM aY.cells (xs.set i (aY.mk a_0 a_1))):=JZ 49 aY.cells xs i (aY.mk a_0 a_1) k
/- all rules as one -/
set_option linter.defProp false
def DN:=aN (aN (aN (aN (aN (aN (aN (aN @aHN (aN @aIA @aI5)) (aN (aN @aA4 @aCB) (aN @aAg @aEQ))) (aN (aN @aEo (aN @aHc @VB)) (aN (aN @aDm @aCh) (aN @VN @PU)))) (aN (aN (aN @YS (aN @RM @aAm)) (aN (aN @aGy @aIj) (aN @aB4 @aBB))) (aN (aN @aCI (aN @aDR @XD)) (aN (aN @VA @aCL) (aN @aB9 @SG))))) (aN (aN (aN (aN @TO (aN @SN @aEC)) (aN (aN @YB @XX) (aN @YU @UP))) (aN (aN @Z8 (aN @U3 @aDv)) (aN (aN @aBn @TU) (aN @R6 @TF)))) (aN (aN (aN @aAE (aN @OA @UC)) (aN (aN @T1 @aCs) (aN @aDL @aBY))) (aN (aN @aAc (aN @aF0 @YL)) (aN (aN @LX @aC2) (aN @N0 @L9)))))) (aN (aN (aN (aN (aN @aFW (aN @YN @LI)) (aN (aN @aAB @TJ) (aN @UB @PM))) (aN (aN @aC1 (aN @aDN @ZO)) (aN (aN @UR @QM) (aN @XI @aD2)))) (aN (aN (aN @aDc (aN @aA7 @aCp)) (aN (aN @JO @aE4) (aN @aFt @aIl))) (aN (aN @aDg (aN @OC @XP)) (aN (aN @aAD @aDW) (aN @aGT @aFm))))) (aN (aN (aN (aN @QS (aN @aDb @XE)) (aN (aN @U4 @Z2) (aN @aBN @YA))) (aN (aN @SO (aN @aEy @aF1)) (aN (aN @UD @aDh) (aN @UI @aDs)))) (aN (aN (aN @aC5 (aN @U2 @DS)) (aN (aN @aAn @aB6) (aN @aAJ @XV))) (aN (aN (aN @aE9 @aEZ) (aN @P4 @RC)) (aN (aN @Z4 @aCE) (aN @aAx @aHL))))))) (aN (aN (aN (aN (aN (aN @aBd (aN @aDr @aB7)) (aN (aN @aAr @YK) (aN @aBt @aCi))) (aN (aN @aBK (aN @aAu @aAo)) (aN (aN @aEG @aBq) (aN @aA1 @aFT)))) (aN (aN (aN @aBu (aN @aIu @aHJ)) (aN (aN @aIP @aAX) (aN @aDf @aBp))) (aN (aN @aGn (aN @aFY @aFb)) (aN (aN @XZ @SW) (aN @VQ @aBT))))) (aN (aN (aN (aN @aDH (aN @aG4 @aEi)) (aN (aN @UM @aCU) (aN @ZT @aCV))) (aN (aN @aBH (aN @X3 @aBR)) (aN (aN @aGB @aFD) (aN @aEv @aIb)))) (aN (aN (aN @aIf (aN @aDX @aDx)) (aN (aN @aCn @ZA) (aN @aGg @X6))) (aN (aN @RR (aN @ZX @OI)) (aN (aN @aFj @aG6) (aN @aCC @aDG)))))) (aN (aN (aN (aN (aN @aBj (aN @aDa @aBo)) (aN (aN @aCv @aDT) (aN @aDS @aFR))) (aN (aN @aFu (aN @aEm @aHM)) (aN (aN @aIe @aHH) (aN @aEw @aFe)))) (aN (aN (aN @aFQ (aN @aFs @aC6)) (aN (aN @aBl @aAI) (aN @YD @aCS))) (aN (aN @aAA (aN @aAG @SH)) (aN (aN @aE1 @aIi) (aN @aBL @aGH))))) (aN (aN (aN (aN @aFU (aN @aGu @aB2)) (aN (aN @LN @XF) (aN @LT @ZN))) (aN (aN @ZI (aN @S8 @JG)) (aN (aN @aAO @RY) (aN @aFw @aFk)))) (aN (aN (aN @aDy (aN @S9 @VF)) (aN (aN @O6 @T9) (aN @VK @QU))) (aN (aN (aN @TZ @YM) (aN @R5 @U6)) (aN (aN @PZ @aAk) (aN @SD @aE8)))))))) (aN (aN (aN (aN (aN (aN (aN @aGi (aN @VT @YE)) (aN (aN @SF @S7) (aN @VR @ON))) (aN (aN @ZJ (aN @aCM @aBz)) (aN (aN @aGo @aAY) (aN @aCa @aBO)))) (aN (aN (aN @RF (aN @aF5 @aFn)) (aN (aN @RB @SZ) (aN @TC @aAR))) (aN (aN @aBk (aN @X4 @PQ)) (aN (aN @PH @P1) (aN @aFK @aER))))) (aN (aN (aN (aN @Q8 (aN @aEL @aIX)) (aN (aN @aGU @aJp) (aN @aFH @NV))) (aN (aN @PO (aN @PL @JZ)) (aN (aN @aIO @aIB) (aN @aHV @aF6)))) (aN (aN (aN @aKp (aN @aJn @aJq)) (aN (aN @aCP @aBs) (aN @aBi @aDJ))) (aN (aN @aCl (aN @aDP @aA5)) (aN (aN @aCg @aDl) (aN @aDe @aBE)))))) (aN (aN (aN (aN (aN @aCD (aN @aFB @aDI)) (aN (aN @XB @ZE) (aN @ZD @ZQ))) (aN (aN @YZ (aN @XS @YG)) (aN (aN @X7 @YX) (aN @aAz @aEs)))) (aN (aN (aN @aGk (aN @aFM @aCe)) (aN (aN @Y7 @M7) (aN @HX @H4))) (aN (aN @aGt (aN @aA9 @aCx)) (aN (aN @ZK @XH) (aN @aFy @aCq))))) (aN (aN (aN (aN @VL (aN @SL @aEF)) (aN (aN @aIr @aI1) (aN @Y8 @YV))) (aN (aN @YF (aN @ZV @T3)) (aN (aN @SP @UL) (aN @TW @SI)))) (aN (aN (aN @SX (aN @SQ @T4)) (aN (aN @N3 @aDz) (aN @UE @TM))) (aN (aN (aN @XK @X5) (aN @T5 @aKx)) (aN (aN @aEM @aD6) (aN @aDd @aB1))))))) (aN (aN (aN (aN (aN (aN @ZS (aN @aEg @aEK)) (aN (aN @Z7 @A4) (aN @aHI @aCu))) (aN (aN @aBe (aN @RA @aAj)) (aN (aN @aIv @PD) (aN @aAd @aBU)))) (aN (aN (aN @aCH (aN @aIW @aHD)) (aN (aN @aFv @aDF) (aN @aAC @SB))) (aN (aN @aGM (aN @aH7 @aIq)) (aN (aN @aDw @aHQ) (aN @YJ @TX))))) (aN (aN (aN (aN @ZM (aN @TY @aEd)) (aN (aN @aG0 @aGe) (aN @aGE @aI3))) (aN (aN @aDA (aN @aIM @aCQ)) (aN (aN @LR @LP) (aN @KY @aFS)))) (aN (aN (aN @ZH (aN @X2 @XU)) (aN (aN @VI @PA) (aN @YT @O7))) (aN (aN (aN @ST @QB) (aN @QK @TD)) (aN (aN @Q1 @S2) (aN @VE @aCf)))))) (aN (aN (aN (aN (aN @aDt (aN @U1 @UQ)) (aN (aN @VO @ZY) (aN @UY @P3))) (aN (aN @TQ (aN @P7 @LJ)) (aN (aN @RS @P9) (aN @aIa @aH0)))) (aN (aN (aN @aH8 (aN @aAU @aBD)) (aN (aN @X9 @aEW) (aN @aG9 @aIt))) (aN (aN @aCr (aN @XO @aIn)) (aN (aN @aHU @aEb) (aN @aCk @aBV))))) (aN (aN (aN (aN @aA8 (aN @Y3 @SJ)) (aN (aN @UV @aAP) (aN @aIp @aH4))) (aN (aN @aHR (aN @Z5 @RQ)) (aN (aN @Y0 @ZU) (aN @UK @QO)))) (aN (aN (aN @aIN (aN @aH1 @aId)) (aN (aN @T6 @aAV) (aN @aDK @aA0))) (aN (aN (aN @aGb @aBF) (aN @QY @aAs)) (aN (aN @aAy @S0) (aN @aIT @aIL))))))))
def DR:=aN (aN (aN (aN (aN (aN (aN (aN @bJ.size (aN @bJ.eq1 @bJ.eq2)) (aN @bJ.lens (aN @bJ.vsets @bJ.st_d))) (aN (aN @bJ.st_agg (aN @bJ.part @bJ.put)) (aN (aN @bJ.rset @bJ.rfull) (aN @bJ.get0 @bJ.get1)))) (aN (aN (aN @bJ.get2 (aN @bJ.get3 @bJ.get4)) (aN (aN @bJ.get5 @bJ.sub0_6) (aN @bN.size @bN.eq1))) (aN (aN @bN.eq2 (aN @bN.lens @bN.vsets)) (aN (aN @bN.st_d @bN.st_agg) (aN @bN.part @bN.put))))) (aN (aN (aN (aN @bN.rset (aN @bN.rfull @bN.get0)) (aN @bN.sub0_1 (aN @bU.size @bU.eq1))) (aN (aN @bU.eq2 (aN @bU.lens @bU.vsets)) (aN (aN @bU.st_d @bU.st_agg) (aN @bU.part @bU.put)))) (aN (aN (aN @bU.rset (aN @bU.rfull @bU.get0)) (aN (aN @bU.get1 @bU.get2) (aN @bU.sub0_3 @bE.size))) (aN (aN @bE.eq1 (aN @bE.eq2 @bE.lens)) (aN (aN @bE.vsets @bE.st_d) (aN @bE.st_agg @bE.part)))))) (aN (aN (aN (aN (aN @bE.put (aN @bE.rset @bE.rfull)) (aN @bE.get0 (aN @bE.get1 @bE.get2))) (aN (aN @bE.sub0_3 (aN @b8.size @b8.eq1)) (aN (aN @b8.eq2 @b8.lens) (aN @b8.vsets @b8.st_d)))) (aN (aN (aN @b8.st_agg (aN @b8.part @b8.put)) (aN (aN @b8.rset @b8.rfull) (aN @b8.get0 @b8.get1))) (aN (aN @b8.get2 (aN @b8.sub0_3 @bW.size)) (aN (aN @bW.eq1 @bW.eq2) (aN @bW.lens @bW.vsets))))) (aN (aN (aN (aN @bW.st_d (aN @bW.st_agg @bW.part)) (aN @bW.put (aN @bW.rset @bW.rfull))) (aN (aN @bW.get0 (aN @bW.get1 @bW.get2)) (aN (aN @bW.get3 @bW.sub0_4) (aN @bW.sub1_3 @bC.size)))) (aN (aN (aN @bC.eq1 (aN @bC.eq2 @bC.lens)) (aN (aN @bC.vsets @bC.st_d) (aN @bC.st_agg @bC.part))) (aN (aN @bC.put (aN @bC.rset @bC.rfull)) (aN (aN @bC.get0 @bC.get1) (aN @bC.get2 @bC.get3))))))) (aN (aN (aN (aN (aN (aN @bC.sub0_4 (aN @bA.size @bA.eq1)) (aN @bA.eq2 (aN @bA.lens @bA.vsets))) (aN (aN @bA.st_d (aN @bA.st_agg @bA.part)) (aN (aN @bA.put @bA.rset) (aN @bA.rfull @bA.get0)))) (aN (aN (aN @bA.get1 (aN @bA.get2 @bA.sub0_3)) (aN (aN @bV.size @bV.eq1) (aN @bV.eq2 @bV.lens))) (aN (aN @bV.vsets (aN @bV.st_d @bV.st_agg)) (aN (aN @bV.part @bV.put) (aN @bV.rset @bV.rfull))))) (aN (aN (aN (aN @bV.get0 (aN @bV.get1 @bV.get2)) (aN @bV.get3 (aN @bV.get4 @bV.sub0_5))) (aN (aN @bZ.size (aN @bZ.eq1 @bZ.eq2)) (aN (aN @bZ.lens @bZ.vsets) (aN @bZ.st_d @bZ.st_agg)))) (aN (aN (aN @bZ.part (aN @bZ.put @bZ.rset)) (aN (aN @bZ.rfull @bZ.get0) (aN @bZ.get1 @bZ.get2))) (aN (aN @bZ.sub0_3 (aN @aA.size @aA.eq1)) (aN (aN @aA.eq2 @aA.lens) (aN @aA.vsets @aA.st_d)))))) (aN (aN (aN (aN (aN @aA.st_nil (aN @aA.st_own @aA.st_agg)) (aN @aA.st_ptr (aN @aA.part @aA.put))) (aN (aN @aA.rset (aN @aA.rfull @aA.get0)) (aN (aN @aA.get1 @aA.get2) (aN @aA.get3 @aA.get4)))) (aN (aN (aN @aA.get5 (aN @aA.get6 @aA.get7)) (aN (aN @aA.sub0_8 @bS.size) (aN @bS.eq1 @bS.eq2))) (aN (aN @bS.lens (aN @bS.vsets @bS.st_d)) (aN (aN @bS.st_agg @bS.part) (aN @bS.put @bS.rset))))) (aN (aN (aN (aN @bS.rfull (aN @bS.get0 @bS.get1)) (aN @bS.get2 (aN @bS.sub0_3 @bD.size))) (aN (aN @bD.eq1 (aN @bD.eq2 @bD.lens)) (aN (aN @bD.vsets @bD.st_d) (aN @bD.st_agg @bD.part)))) (aN (aN (aN @bD.put (aN @bD.rset @bD.rfull)) (aN (aN @bD.get0 @bD.get1) (aN @bD.get2 @bD.get3))) (aN (aN @bD.get4 (aN @bD.get5 @bD.get6)) (aN (aN @bD.get7 @bD.get8) (aN @bD.get9 @bD.get10)))))))) (aN (aN (aN (aN (aN (aN (aN @bD.get11 (aN @bD.get12 @bD.get13)) (aN @bD.get14 (aN @bD.sub0_15 @bD.sub5_3))) (aN (aN @aO.size (aN @aO.eq1 @aO.eq2)) (aN (aN @aO.lens @aO.vsets) (aN @aO.st_d @aO.st_agg)))) (aN (aN (aN @aO.part (aN @aO.put @aO.rset)) (aN (aN @aO.rfull @aO.get0) (aN @aO.get1 @aO.get2))) (aN (aN @aO.get3 (aN @aO.get4 @aO.get5)) (aN (aN @aO.get6 @aO.get7) (aN @aO.get8 @aO.sub0_9))))) (aN (aN (aN (aN @aZ.size (aN @aZ.eq1 @aZ.eq2)) (aN @aZ.lens (aN @aZ.vsets @aZ.st_d))) (aN (aN @aZ.st_agg (aN @aZ.part @aZ.put)) (aN (aN @aZ.rset @aZ.rfull) (aN @aZ.get0 @aZ.get1)))) (aN (aN (aN @aZ.sub0_2 (aN @bB.size @bB.eq1)) (aN (aN @bB.eq2 @bB.lens) (aN @bB.vsets @bB.st_d))) (aN (aN @bB.st_agg (aN @bB.part @bB.put)) (aN (aN @bB.rset @bB.rfull) (aN @bB.get0 @bB.get1)))))) (aN (aN (aN (aN (aN @bB.get2 (aN @bB.get3 @bB.get4)) (aN @bB.get5 (aN @bB.get6 @bB.get7))) (aN (aN @bB.get8 (aN @bB.sub0_9 @bG.size)) (aN (aN @bG.eq1 @bG.eq2) (aN @bG.lens @bG.vsets)))) (aN (aN (aN @bG.st_d (aN @bG.st_agg @bG.part)) (aN (aN @bG.put @bG.rset) (aN @bG.rfull @bG.get0))) (aN (aN @bG.get1 (aN @bG.get2 @bG.sub0_3)) (aN (aN @aB.size @aB.eq1) (aN @aB.eq2 @aB.lens))))) (aN (aN (aN (aN @aB.vsets (aN @aB.st_d @aB.st_nil)) (aN @aB.st_own (aN @aB.st_agg @aB.st_ptr))) (aN (aN @aB.part (aN @aB.put @aB.rset)) (aN (aN @aB.rfull @aB.get0) (aN @aB.get1 @aB.get2)))) (aN (aN (aN @aB.get3 (aN @aB.get4 @aB.get5)) (aN (aN @aB.get6 @aB.get7) (aN @aB.get8 @aB.get9))) (aN (aN @aB.get10 (aN @aB.get11 @aB.get12)) (aN (aN @aB.get13 @aB.get14) (aN @aB.get15 @aB.get16))))))) (aN (aN (aN (aN (aN (aN @aB.get17 (aN @aB.get18 @aB.sub0_19)) (aN @aB.sub0_15 (aN @aB.sub5_3 @a7.size))) (aN (aN @a7.eq1 (aN @a7.eq2 @a7.lens)) (aN (aN @a7.vsets @a7.st_d) (aN @a7.st_agg @a7.part)))) (aN (aN (aN @a7.put (aN @a7.rset @a7.rfull)) (aN (aN @a7.get0 @a7.get1) (aN @a7.get2 @a7.get3))) (aN (aN @a7.get4 (aN @a7.get5 @a7.get6)) (aN (aN @a7.get7 @a7.get8) (aN @a7.get9 @a7.get10))))) (aN (aN (aN (aN @a7.get11 (aN @a7.get12 @a7.get13)) (aN @a7.get14 (aN @a7.get15 @a7.get16))) (aN (aN @a7.get17 (aN @a7.get18 @a7.get19)) (aN (aN @a7.get20 @a7.get21) (aN @a7.get22 @a7.get23)))) (aN (aN (aN @a7.sub0_24 (aN @a7.sub0_19 @a7.sub0_15)) (aN (aN @a7.sub5_3 @aY.size) (aN @aY.eq1 @aY.eq2))) (aN (aN @aY.lens (aN @aY.vsets @aY.st_d)) (aN (aN @aY.st_agg @aY.part) (aN @aY.put @aY.rset)))))) (aN (aN (aN (aN (aN @aY.rfull (aN @aY.get0 @aY.get1)) (aN @aY.sub0_2 (aN @aIk @aFc))) (aN (aN @aGj (aN @aH2 @aFI)) (aN (aN @aF2 @aIo) (aN @aFL @aD3)))) (aN (aN (aN @aD7 (aN @aFA @aGA)) (aN (aN @aGV @aES) (aN @aEU @aFZ))) (aN (aN @aG3 (aN @aB3 @aIE)) (aN (aN @aFh @aFq) (aN @aGw @aIK))))) (aN (aN (aN (aN @aGa (aN @I5 @J6)) (aN @Q4 (aN @I8 @E0))) (aN (aN @RG (aN @LZ @IB)) (aN (aN @N5 @OQ) (aN @N6 @L2)))) (aN (aN (aN @L0 (aN @N9 @IM)) (aN (aN @LQ @OE) (aN @LL @OS))) (aN (aN @LH (aN @LO @D7)) (aN (aN @PB @NZ) (aN @GP @QN))))))))
def DQ:=aN (aN (aN (aN (aN @bJ.len (aN @bN.len @bU.len)) (aN (aN @bE.len @b8.len) (aN @bW.len @bC.len))) (aN (aN (aN @bA.len @bV.len) (aN @bZ.len @aA.len)) (aN (aN @bS.len @bD.len) (aN @aO.len @aZ.len)))) (aN (aN (aN @bB.len (aN @bG.len @aB.len)) (aN (aN @a7.len @aY.len) (aN @bJ.cells_mk @bN.cells_mk))) (aN (aN (aN @bU.cells_mk @bE.cells_mk) (aN @b8.cells_mk @bW.cells_mk)) (aN (aN @bC.cells_mk @bA.cells_mk) (aN @bV.cells_mk @bZ.cells_mk))))) (aN (aN (aN (aN @aA.cells_mk (aN @bS.cells_mk @bD.cells_mk)) (aN (aN @aO.cells_mk @aZ.cells_mk) (aN @bB.cells_mk @bG.cells_mk))) (aN (aN (aN @aB.cells_mk @a7.cells_mk) (aN @aY.cells_mk @bJ.sized)) (aN (aN @bN.sized @bU.sized) (aN @bE.sized @b8.sized)))) (aN (aN (aN @bW.sized (aN @bC.sized @bA.sized)) (aN (aN @bV.sized @bZ.sized) (aN @aA.sized @bS.sized))) (aN (aN (aN @bD.sized @aO.sized) (aN @aZ.sized @bB.sized)) (aN (aN @bG.sized @aB.sized) (aN @a7.sized @aY.sized)))))
def DP:=aN @Option.some.injEq (aN @Bool.and_true @List.cons_ne_nil)
end Go.Proofs.Ytfhebiceipgdmaa
