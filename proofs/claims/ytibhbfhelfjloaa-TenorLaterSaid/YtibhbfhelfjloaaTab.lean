/- The table. Printed by a program. -/
import Derived.Test.YtibhbfhelfjloaaVmF
import Derived.Test.YtibhbfhelfjloaaCalS
import Derived.Test.YtibhbfhelfjloaaVmTold
import Derived.Test.YtibhbfhelfjloaaCode1
set_option linter.unusedVariables false
set_option linter.unusedSimpArgs false
namespace Go.Proofs.Ytibhbfhelfjloaa
open Vm
open Go.RowKit
def o76:List D→Option D
 | [.int .i64 d,.int .i64 n]=>some (.tup [.int .i64 (Cal.addV d n),.int .i64 (Cal.addE d n)])
 | _=>none
def o69:List D→Option D
 | [c,.int .i64 d]=>(dTown c).map fun t=>.tup [.int .i64 (Cal.got (Cal.nx1 t d)),.int .i64 (Cal.gotE (Cal.nx1 t d))]
 | _=>none
def TL:List (Nat × Option Def):=[(36,some (.code sf36)),(38,some (.code sf38)),(74,some (.code sf74)),(82,some (.code sf82)),(75,some (.code sf75)),(63,some (.code sf63)),(40,some (.code sf40)),(39,some (.code sf39)),(43,some (.code sf43)),(64,some (.code sf64)),(42,some (.code sf42)),(41,some (.code sf41)),(44,some (.code sf44)),(46,some (.code sf46)),(45,some (.code sf45)),(47,some (.code sf47)),(48,some (.code sf48)),(13,some (.code sf13)),(49,some (.code sf49)),(50,some (.code sf50)),(37,some (.code sf37)),(65,some (.code sf65)),(66,some (.code sf66)),(51,some (.code sf51)),(67,some (.code sf67)),(68,some (.code sf68)),(52,some (.code sf52)),(14,some (.code sf14)),(15,some (.code sf15)),(11,some (.code sf11)),(12,some (.code sf12)),(3,some (.code sf3)),(76,some (.told o76)),(69,some (.told o69))]
def TT:Tbl:=fun f=>lk TL none f
structure GCity where
 Name:ByteArray
 Order:Int
 Currency:Int
 Rest:List Int
 Feasts:List Int
 Shut:List Int
 deriving Inhabited
def GCity.cells (x:GCity):List D:=[.str x.Name,.int .i64 x.Order,.int .i64 x.Currency,.sl (cM cI x.Rest),.sl (cM cI x.Feasts),.sl (cM cI x.Shut)]
theorem GCity.sized (xs:List GCity):sized 6 (cM GCity.cells xs) = true:=sized_cM _ _ (fun x=>by rfl) xs
theorem GCity.len (x:GCity):(GCity.cells x).length = 6:=rfl
theorem GCity.size {β:Type} (x:GCity) (y:Option β):sizeK (GCity.cells x) 6 y = y:=rfl
theorem GCity.eq1 {β:Type} (x:GCity) (ks:List Nat) (ys:List V) (k:Bool→Option β):eqCK ks (dcells (GCity.cells x)) ys k = eqCK ks [.d (.str x.Name),.d (.int .i64 x.Order),.d (.int .i64 x.Currency),.d (.sl (cM cI x.Rest)),.d (.sl (cM cI x.Feasts)),.d (.sl (cM cI x.Shut))] ys k:=rfl
theorem GCity.eq2 {β:Type} (x:GCity) (ks:List Nat) (ys:List V) (k:Bool→Option β):eqCK ks ys (dcells (GCity.cells x)) k = eqCK ks ys [.d (.str x.Name),.d (.int .i64 x.Order),.d (.int .i64 x.Currency),.d (.sl (cM cI x.Rest)),.d (.sl (cM cI x.Feasts)),.d (.sl (cM cI x.Shut))] k:=rfl
theorem GCity.lens {β:Type} (x:GCity) (y:Option β):lenIs (dcells (GCity.cells x)) 6 y = y:=rfl
theorem GCity.vsets {β:Type} (x:GCity) (z:List V) (o:Nat) (k:List V→Option β):vsetsK z o (dcells (GCity.cells x)) k = vsetsK z o [.d (.str x.Name),.d (.int .i64 x.Order),.d (.int .i64 x.Currency),.d (.sl (cM cI x.Rest)),.d (.sl (cM cI x.Feasts)),.d (.sl (cM cI x.Shut))] k:=rfl
theorem GCity.st_d {β:Type} (x:GCity) (y:D) (sz off id:Nat) (kw:V→List (Nat × Option Blk)→Option β):storeBK sz off id (.d y) (some (.box (dcells (GCity.cells x)))) kw = storeBK sz off id (.d y) (some (.box [.d (.str x.Name),.d (.int .i64 x.Order),.d (.int .i64 x.Currency),.d (.sl (cM cI x.Rest)),.d (.sl (cM cI x.Feasts)),.d (.sl (cM cI x.Shut))])) kw:=rfl
theorem GCity.st_nil {β:Type} (x:GCity)  (sz off id:Nat) (kw:V→List (Nat × Option Blk)→Option β):storeBK sz off id .nil (some (.box (dcells (GCity.cells x)))) kw = storeBK sz off id .nil (some (.box [.d (.str x.Name),.d (.int .i64 x.Order),.d (.int .i64 x.Currency),.d (.sl (cM cI x.Rest)),.d (.sl (cM cI x.Feasts)),.d (.sl (cM cI x.Shut))])) kw:=rfl
theorem GCity.st_own {β:Type} (x:GCity) (i v:Nat) (sz off id:Nat) (kw:V→List (Nat × Option Blk)→Option β):storeBK sz off id (.own i v) (some (.box (dcells (GCity.cells x)))) kw = storeBK sz off id (.own i v) (some (.box [.d (.str x.Name),.d (.int .i64 x.Order),.d (.int .i64 x.Currency),.d (.sl (cM cI x.Rest)),.d (.sl (cM cI x.Feasts)),.d (.sl (cM cI x.Shut))])) kw:=rfl
theorem GCity.st_agg {β:Type} (x:GCity) (y:List V) (sz off id:Nat) (kw:V→List (Nat × Option Blk)→Option β):storeBK sz off id (.agg y) (some (.box (dcells (GCity.cells x)))) kw = storeBK sz off id (.agg y) (some (.box [.d (.str x.Name),.d (.int .i64 x.Order),.d (.int .i64 x.Currency),.d (.sl (cM cI x.Rest)),.d (.sl (cM cI x.Feasts)),.d (.sl (cM cI x.Shut))])) kw:=rfl
theorem GCity.st_ptr {β:Type} (x:GCity) (i v:Nat) (sz off id:Nat) (kw:V→List (Nat × Option Blk)→Option β):storeBK sz off id (.ptr i v) (some (.box (dcells (GCity.cells x)))) kw = storeBK sz off id (.ptr i v) (some (.box [.d (.str x.Name),.d (.int .i64 x.Order),.d (.int .i64 x.Currency),.d (.sl (cM cI x.Rest)),.d (.sl (cM cI x.Feasts)),.d (.sl (cM cI x.Shut))])) kw:=rfl
theorem GCity.part {β:Type} (x:GCity) (off id:Nat) (b:Option Blk) (kw:V→List (Nat × Option Blk)→Option β):storeBK 6 (off + 1) id (aggD (GCity.cells x)) b kw = storeBK 6 (off + 1) id (.agg [.d (.str x.Name),.d (.int .i64 x.Order),.d (.int .i64 x.Currency),.d (.sl (cM cI x.Rest)),.d (.sl (cM cI x.Feasts)),.d (.sl (cM cI x.Shut))]) b kw:=rfl
theorem GCity.put {β:Type} (x:GCity) (id:Nat) (cs:List V) (hc:cs.length = 6) (kw:V→List (Nat × Option Blk)→Option β):storeBK 6 0 id (aggD (GCity.cells x)) (some (.box cs)) kw = kw .any [(id,some (.box (dcells (GCity.cells x))))]:=storeBK_packed 6 id _ rfl cs hc
theorem GCity.rset {β:Type} (x:GCity) (off:Nat) (d:D) (ds:List D) (n:Nat) (k:List D→Option β):rowSetK (GCity.cells x) off (d :: ds) n k = rowSetK [.str x.Name,.int .i64 x.Order,.int .i64 x.Currency,.sl (cM cI x.Rest),.sl (cM cI x.Feasts),.sl (cM cI x.Shut)] off (d :: ds) n k:=rfl
theorem GCity.rfull {β:Type} (x y:GCity) (k:List D→Option β):rowSetK (GCity.cells x) 0 (GCity.cells y) 6 k = k (GCity.cells y):=by unfold rowSetK; exact (if_pos ⟨rfl,Nat.le_refl _⟩).trans rfl
theorem GCity.get0 {β:Type} (x:GCity) (k:D→Option β):dgetK (GCity.cells x) 0 k = k (.str x.Name):=rfl
theorem GCity.get1 {β:Type} (x:GCity) (k:D→Option β):dgetK (GCity.cells x) 1 k = k (.int .i64 x.Order):=rfl
theorem GCity.get2 {β:Type} (x:GCity) (k:D→Option β):dgetK (GCity.cells x) 2 k = k (.int .i64 x.Currency):=rfl
theorem GCity.get3 {β:Type} (x:GCity) (k:D→Option β):dgetK (GCity.cells x) 3 k = k (.sl (cM cI x.Rest)):=rfl
theorem GCity.get4 {β:Type} (x:GCity) (k:D→Option β):dgetK (GCity.cells x) 4 k = k (.sl (cM cI x.Feasts)):=rfl
theorem GCity.get5 {β:Type} (x:GCity) (k:D→Option β):dgetK (GCity.cells x) 5 k = k (.sl (cM cI x.Shut)):=rfl
theorem GCity.sub0_6 {β:Type} (x:GCity) (k:List D→Option β):dsubK (GCity.cells x) 0 6 k = k (GCity.cells x):=rfl
theorem GCity.cells_mk (f0:ByteArray) (f1:Int) (f2:Int) (f3:List Int) (f4:List Int) (f5:List Int):GCity.cells (GCity.mk f0 f1 f2 f3 f4 f5) = [.str f0,.int .i64 f1,.int .i64 f2,.sl (cM cI f3),.sl (cM cI f4),.sl (cM cI f5)]:=rfl
structure GGroup where
 Grade:Int
 deriving Inhabited
def GGroup.cells (x:GGroup):List D:=[.int .i64 x.Grade]
theorem GGroup.sized (xs:List GGroup):sized 1 (cM GGroup.cells xs) = true:=sized_cM _ _ (fun x=>by rfl) xs
theorem GGroup.len (x:GGroup):(GGroup.cells x).length = 1:=rfl
theorem GGroup.size {β:Type} (x:GGroup) (y:Option β):sizeK (GGroup.cells x) 1 y = y:=rfl
theorem GGroup.eq1 {β:Type} (x:GGroup) (ks:List Nat) (ys:List V) (k:Bool→Option β):eqCK ks (dcells (GGroup.cells x)) ys k = eqCK ks [.d (.int .i64 x.Grade)] ys k:=rfl
theorem GGroup.eq2 {β:Type} (x:GGroup) (ks:List Nat) (ys:List V) (k:Bool→Option β):eqCK ks ys (dcells (GGroup.cells x)) k = eqCK ks ys [.d (.int .i64 x.Grade)] k:=rfl
theorem GGroup.lens {β:Type} (x:GGroup) (y:Option β):lenIs (dcells (GGroup.cells x)) 1 y = y:=rfl
theorem GGroup.vsets {β:Type} (x:GGroup) (z:List V) (o:Nat) (k:List V→Option β):vsetsK z o (dcells (GGroup.cells x)) k = vsetsK z o [.d (.int .i64 x.Grade)] k:=rfl
theorem GGroup.st_d {β:Type} (x:GGroup) (y:D) (sz off id:Nat) (kw:V→List (Nat × Option Blk)→Option β):storeBK sz off id (.d y) (some (.box (dcells (GGroup.cells x)))) kw = storeBK sz off id (.d y) (some (.box [.d (.int .i64 x.Grade)])) kw:=rfl
theorem GGroup.st_nil {β:Type} (x:GGroup)  (sz off id:Nat) (kw:V→List (Nat × Option Blk)→Option β):storeBK sz off id .nil (some (.box (dcells (GGroup.cells x)))) kw = storeBK sz off id .nil (some (.box [.d (.int .i64 x.Grade)])) kw:=rfl
theorem GGroup.st_own {β:Type} (x:GGroup) (i v:Nat) (sz off id:Nat) (kw:V→List (Nat × Option Blk)→Option β):storeBK sz off id (.own i v) (some (.box (dcells (GGroup.cells x)))) kw = storeBK sz off id (.own i v) (some (.box [.d (.int .i64 x.Grade)])) kw:=rfl
theorem GGroup.st_agg {β:Type} (x:GGroup) (y:List V) (sz off id:Nat) (kw:V→List (Nat × Option Blk)→Option β):storeBK sz off id (.agg y) (some (.box (dcells (GGroup.cells x)))) kw = storeBK sz off id (.agg y) (some (.box [.d (.int .i64 x.Grade)])) kw:=rfl
theorem GGroup.st_ptr {β:Type} (x:GGroup) (i v:Nat) (sz off id:Nat) (kw:V→List (Nat × Option Blk)→Option β):storeBK sz off id (.ptr i v) (some (.box (dcells (GGroup.cells x)))) kw = storeBK sz off id (.ptr i v) (some (.box [.d (.int .i64 x.Grade)])) kw:=rfl
theorem GGroup.part {β:Type} (x:GGroup) (off id:Nat) (b:Option Blk) (kw:V→List (Nat × Option Blk)→Option β):storeBK 1 (off + 1) id (aggD (GGroup.cells x)) b kw = storeBK 1 (off + 1) id (.agg [.d (.int .i64 x.Grade)]) b kw:=rfl
theorem GGroup.put {β:Type} (x:GGroup) (id:Nat) (cs:List V) (hc:cs.length = 1) (kw:V→List (Nat × Option Blk)→Option β):storeBK 1 0 id (aggD (GGroup.cells x)) (some (.box cs)) kw = kw .any [(id,some (.box (dcells (GGroup.cells x))))]:=storeBK_packed 1 id _ rfl cs hc
theorem GGroup.rset {β:Type} (x:GGroup) (off:Nat) (d:D) (ds:List D) (n:Nat) (k:List D→Option β):rowSetK (GGroup.cells x) off (d :: ds) n k = rowSetK [.int .i64 x.Grade] off (d :: ds) n k:=rfl
theorem GGroup.rfull {β:Type} (x y:GGroup) (k:List D→Option β):rowSetK (GGroup.cells x) 0 (GGroup.cells y) 1 k = k (GGroup.cells y):=by unfold rowSetK; exact (if_pos ⟨rfl,Nat.le_refl _⟩).trans rfl
theorem GGroup.get0 {β:Type} (x:GGroup) (k:D→Option β):dgetK (GGroup.cells x) 0 k = k (.int .i64 x.Grade):=rfl
theorem GGroup.sub0_1 {β:Type} (x:GGroup) (k:List D→Option β):dsubK (GGroup.cells x) 0 1 k = k (GGroup.cells x):=rfl
theorem GGroup.cells_mk (f0:Int):GGroup.cells (GGroup.mk f0) = [.int .i64 f0]:=rfl
structure GFirm where
 Name:ByteArray
 City:Int
 Group:Int
 deriving Inhabited
def GFirm.cells (x:GFirm):List D:=[.str x.Name,.int .i64 x.City,.int .i64 x.Group]
theorem GFirm.sized (xs:List GFirm):sized 3 (cM GFirm.cells xs) = true:=sized_cM _ _ (fun x=>by rfl) xs
theorem GFirm.len (x:GFirm):(GFirm.cells x).length = 3:=rfl
theorem GFirm.size {β:Type} (x:GFirm) (y:Option β):sizeK (GFirm.cells x) 3 y = y:=rfl
theorem GFirm.eq1 {β:Type} (x:GFirm) (ks:List Nat) (ys:List V) (k:Bool→Option β):eqCK ks (dcells (GFirm.cells x)) ys k = eqCK ks [.d (.str x.Name),.d (.int .i64 x.City),.d (.int .i64 x.Group)] ys k:=rfl
theorem GFirm.eq2 {β:Type} (x:GFirm) (ks:List Nat) (ys:List V) (k:Bool→Option β):eqCK ks ys (dcells (GFirm.cells x)) k = eqCK ks ys [.d (.str x.Name),.d (.int .i64 x.City),.d (.int .i64 x.Group)] k:=rfl
theorem GFirm.lens {β:Type} (x:GFirm) (y:Option β):lenIs (dcells (GFirm.cells x)) 3 y = y:=rfl
theorem GFirm.vsets {β:Type} (x:GFirm) (z:List V) (o:Nat) (k:List V→Option β):vsetsK z o (dcells (GFirm.cells x)) k = vsetsK z o [.d (.str x.Name),.d (.int .i64 x.City),.d (.int .i64 x.Group)] k:=rfl
theorem GFirm.st_d {β:Type} (x:GFirm) (y:D) (sz off id:Nat) (kw:V→List (Nat × Option Blk)→Option β):storeBK sz off id (.d y) (some (.box (dcells (GFirm.cells x)))) kw = storeBK sz off id (.d y) (some (.box [.d (.str x.Name),.d (.int .i64 x.City),.d (.int .i64 x.Group)])) kw:=rfl
theorem GFirm.st_nil {β:Type} (x:GFirm)  (sz off id:Nat) (kw:V→List (Nat × Option Blk)→Option β):storeBK sz off id .nil (some (.box (dcells (GFirm.cells x)))) kw = storeBK sz off id .nil (some (.box [.d (.str x.Name),.d (.int .i64 x.City),.d (.int .i64 x.Group)])) kw:=rfl
theorem GFirm.st_own {β:Type} (x:GFirm) (i v:Nat) (sz off id:Nat) (kw:V→List (Nat × Option Blk)→Option β):storeBK sz off id (.own i v) (some (.box (dcells (GFirm.cells x)))) kw = storeBK sz off id (.own i v) (some (.box [.d (.str x.Name),.d (.int .i64 x.City),.d (.int .i64 x.Group)])) kw:=rfl
theorem GFirm.st_agg {β:Type} (x:GFirm) (y:List V) (sz off id:Nat) (kw:V→List (Nat × Option Blk)→Option β):storeBK sz off id (.agg y) (some (.box (dcells (GFirm.cells x)))) kw = storeBK sz off id (.agg y) (some (.box [.d (.str x.Name),.d (.int .i64 x.City),.d (.int .i64 x.Group)])) kw:=rfl
theorem GFirm.st_ptr {β:Type} (x:GFirm) (i v:Nat) (sz off id:Nat) (kw:V→List (Nat × Option Blk)→Option β):storeBK sz off id (.ptr i v) (some (.box (dcells (GFirm.cells x)))) kw = storeBK sz off id (.ptr i v) (some (.box [.d (.str x.Name),.d (.int .i64 x.City),.d (.int .i64 x.Group)])) kw:=rfl
theorem GFirm.part {β:Type} (x:GFirm) (off id:Nat) (b:Option Blk) (kw:V→List (Nat × Option Blk)→Option β):storeBK 3 (off + 1) id (aggD (GFirm.cells x)) b kw = storeBK 3 (off + 1) id (.agg [.d (.str x.Name),.d (.int .i64 x.City),.d (.int .i64 x.Group)]) b kw:=rfl
theorem GFirm.put {β:Type} (x:GFirm) (id:Nat) (cs:List V) (hc:cs.length = 3) (kw:V→List (Nat × Option Blk)→Option β):storeBK 3 0 id (aggD (GFirm.cells x)) (some (.box cs)) kw = kw .any [(id,some (.box (dcells (GFirm.cells x))))]:=storeBK_packed 3 id _ rfl cs hc
theorem GFirm.rset {β:Type} (x:GFirm) (off:Nat) (d:D) (ds:List D) (n:Nat) (k:List D→Option β):rowSetK (GFirm.cells x) off (d :: ds) n k = rowSetK [.str x.Name,.int .i64 x.City,.int .i64 x.Group] off (d :: ds) n k:=rfl
theorem GFirm.rfull {β:Type} (x y:GFirm) (k:List D→Option β):rowSetK (GFirm.cells x) 0 (GFirm.cells y) 3 k = k (GFirm.cells y):=by unfold rowSetK; exact (if_pos ⟨rfl,Nat.le_refl _⟩).trans rfl
theorem GFirm.get0 {β:Type} (x:GFirm) (k:D→Option β):dgetK (GFirm.cells x) 0 k = k (.str x.Name):=rfl
theorem GFirm.get1 {β:Type} (x:GFirm) (k:D→Option β):dgetK (GFirm.cells x) 1 k = k (.int .i64 x.City):=rfl
theorem GFirm.get2 {β:Type} (x:GFirm) (k:D→Option β):dgetK (GFirm.cells x) 2 k = k (.int .i64 x.Group):=rfl
theorem GFirm.sub0_3 {β:Type} (x:GFirm) (k:List D→Option β):dsubK (GFirm.cells x) 0 3 k = k (GFirm.cells x):=rfl
theorem GFirm.cells_mk (f0:ByteArray) (f1:Int) (f2:Int):GFirm.cells (GFirm.mk f0 f1 f2) = [.str f0,.int .i64 f1,.int .i64 f2]:=rfl
structure GChoice where
 Ask:Int
 By:Int
 Whole:Bool
 deriving Inhabited
def GChoice.cells (x:GChoice):List D:=[.int .i64 x.Ask,.int .i64 x.By,.bool x.Whole]
theorem GChoice.sized (xs:List GChoice):sized 3 (cM GChoice.cells xs) = true:=sized_cM _ _ (fun x=>by rfl) xs
theorem GChoice.len (x:GChoice):(GChoice.cells x).length = 3:=rfl
theorem GChoice.size {β:Type} (x:GChoice) (y:Option β):sizeK (GChoice.cells x) 3 y = y:=rfl
theorem GChoice.eq1 {β:Type} (x:GChoice) (ks:List Nat) (ys:List V) (k:Bool→Option β):eqCK ks (dcells (GChoice.cells x)) ys k = eqCK ks [.d (.int .i64 x.Ask),.d (.int .i64 x.By),.d (.bool x.Whole)] ys k:=rfl
theorem GChoice.eq2 {β:Type} (x:GChoice) (ks:List Nat) (ys:List V) (k:Bool→Option β):eqCK ks ys (dcells (GChoice.cells x)) k = eqCK ks ys [.d (.int .i64 x.Ask),.d (.int .i64 x.By),.d (.bool x.Whole)] k:=rfl
theorem GChoice.lens {β:Type} (x:GChoice) (y:Option β):lenIs (dcells (GChoice.cells x)) 3 y = y:=rfl
theorem GChoice.vsets {β:Type} (x:GChoice) (z:List V) (o:Nat) (k:List V→Option β):vsetsK z o (dcells (GChoice.cells x)) k = vsetsK z o [.d (.int .i64 x.Ask),.d (.int .i64 x.By),.d (.bool x.Whole)] k:=rfl
theorem GChoice.st_d {β:Type} (x:GChoice) (y:D) (sz off id:Nat) (kw:V→List (Nat × Option Blk)→Option β):storeBK sz off id (.d y) (some (.box (dcells (GChoice.cells x)))) kw = storeBK sz off id (.d y) (some (.box [.d (.int .i64 x.Ask),.d (.int .i64 x.By),.d (.bool x.Whole)])) kw:=rfl
theorem GChoice.st_nil {β:Type} (x:GChoice)  (sz off id:Nat) (kw:V→List (Nat × Option Blk)→Option β):storeBK sz off id .nil (some (.box (dcells (GChoice.cells x)))) kw = storeBK sz off id .nil (some (.box [.d (.int .i64 x.Ask),.d (.int .i64 x.By),.d (.bool x.Whole)])) kw:=rfl
theorem GChoice.st_own {β:Type} (x:GChoice) (i v:Nat) (sz off id:Nat) (kw:V→List (Nat × Option Blk)→Option β):storeBK sz off id (.own i v) (some (.box (dcells (GChoice.cells x)))) kw = storeBK sz off id (.own i v) (some (.box [.d (.int .i64 x.Ask),.d (.int .i64 x.By),.d (.bool x.Whole)])) kw:=rfl
theorem GChoice.st_agg {β:Type} (x:GChoice) (y:List V) (sz off id:Nat) (kw:V→List (Nat × Option Blk)→Option β):storeBK sz off id (.agg y) (some (.box (dcells (GChoice.cells x)))) kw = storeBK sz off id (.agg y) (some (.box [.d (.int .i64 x.Ask),.d (.int .i64 x.By),.d (.bool x.Whole)])) kw:=rfl
theorem GChoice.st_ptr {β:Type} (x:GChoice) (i v:Nat) (sz off id:Nat) (kw:V→List (Nat × Option Blk)→Option β):storeBK sz off id (.ptr i v) (some (.box (dcells (GChoice.cells x)))) kw = storeBK sz off id (.ptr i v) (some (.box [.d (.int .i64 x.Ask),.d (.int .i64 x.By),.d (.bool x.Whole)])) kw:=rfl
theorem GChoice.part {β:Type} (x:GChoice) (off id:Nat) (b:Option Blk) (kw:V→List (Nat × Option Blk)→Option β):storeBK 3 (off + 1) id (aggD (GChoice.cells x)) b kw = storeBK 3 (off + 1) id (.agg [.d (.int .i64 x.Ask),.d (.int .i64 x.By),.d (.bool x.Whole)]) b kw:=rfl
theorem GChoice.put {β:Type} (x:GChoice) (id:Nat) (cs:List V) (hc:cs.length = 3) (kw:V→List (Nat × Option Blk)→Option β):storeBK 3 0 id (aggD (GChoice.cells x)) (some (.box cs)) kw = kw .any [(id,some (.box (dcells (GChoice.cells x))))]:=storeBK_packed 3 id _ rfl cs hc
theorem GChoice.rset {β:Type} (x:GChoice) (off:Nat) (d:D) (ds:List D) (n:Nat) (k:List D→Option β):rowSetK (GChoice.cells x) off (d :: ds) n k = rowSetK [.int .i64 x.Ask,.int .i64 x.By,.bool x.Whole] off (d :: ds) n k:=rfl
theorem GChoice.rfull {β:Type} (x y:GChoice) (k:List D→Option β):rowSetK (GChoice.cells x) 0 (GChoice.cells y) 3 k = k (GChoice.cells y):=by unfold rowSetK; exact (if_pos ⟨rfl,Nat.le_refl _⟩).trans rfl
theorem GChoice.get0 {β:Type} (x:GChoice) (k:D→Option β):dgetK (GChoice.cells x) 0 k = k (.int .i64 x.Ask):=rfl
theorem GChoice.get1 {β:Type} (x:GChoice) (k:D→Option β):dgetK (GChoice.cells x) 1 k = k (.int .i64 x.By):=rfl
theorem GChoice.get2 {β:Type} (x:GChoice) (k:D→Option β):dgetK (GChoice.cells x) 2 k = k (.bool x.Whole):=rfl
theorem GChoice.sub0_3 {β:Type} (x:GChoice) (k:List D→Option β):dsubK (GChoice.cells x) 0 3 k = k (GChoice.cells x):=rfl
theorem GChoice.cells_mk (f0:Int) (f1:Int) (f2:Bool):GChoice.cells (GChoice.mk f0 f1 f2) = [.int .i64 f0,.int .i64 f1,.bool f2]:=rfl
structure GTerm where
 Op:Int
 N:Int
 Args:List (List D)
 deriving Inhabited
def GTerm.cells (x:GTerm):List D:=[.int .i64 x.Op,.int .i64 x.N,.sl (cM cD x.Args)]
theorem GTerm.sized (xs:List GTerm):sized 3 (cM GTerm.cells xs) = true:=sized_cM _ _ (fun x=>by rfl) xs
theorem GTerm.len (x:GTerm):(GTerm.cells x).length = 3:=rfl
theorem GTerm.size {β:Type} (x:GTerm) (y:Option β):sizeK (GTerm.cells x) 3 y = y:=rfl
theorem GTerm.eq1 {β:Type} (x:GTerm) (ks:List Nat) (ys:List V) (k:Bool→Option β):eqCK ks (dcells (GTerm.cells x)) ys k = eqCK ks [.d (.int .i64 x.Op),.d (.int .i64 x.N),.d (.sl (cM cD x.Args))] ys k:=rfl
theorem GTerm.eq2 {β:Type} (x:GTerm) (ks:List Nat) (ys:List V) (k:Bool→Option β):eqCK ks ys (dcells (GTerm.cells x)) k = eqCK ks ys [.d (.int .i64 x.Op),.d (.int .i64 x.N),.d (.sl (cM cD x.Args))] k:=rfl
theorem GTerm.lens {β:Type} (x:GTerm) (y:Option β):lenIs (dcells (GTerm.cells x)) 3 y = y:=rfl
theorem GTerm.vsets {β:Type} (x:GTerm) (z:List V) (o:Nat) (k:List V→Option β):vsetsK z o (dcells (GTerm.cells x)) k = vsetsK z o [.d (.int .i64 x.Op),.d (.int .i64 x.N),.d (.sl (cM cD x.Args))] k:=rfl
theorem GTerm.st_d {β:Type} (x:GTerm) (y:D) (sz off id:Nat) (kw:V→List (Nat × Option Blk)→Option β):storeBK sz off id (.d y) (some (.box (dcells (GTerm.cells x)))) kw = storeBK sz off id (.d y) (some (.box [.d (.int .i64 x.Op),.d (.int .i64 x.N),.d (.sl (cM cD x.Args))])) kw:=rfl
theorem GTerm.st_nil {β:Type} (x:GTerm)  (sz off id:Nat) (kw:V→List (Nat × Option Blk)→Option β):storeBK sz off id .nil (some (.box (dcells (GTerm.cells x)))) kw = storeBK sz off id .nil (some (.box [.d (.int .i64 x.Op),.d (.int .i64 x.N),.d (.sl (cM cD x.Args))])) kw:=rfl
theorem GTerm.st_own {β:Type} (x:GTerm) (i v:Nat) (sz off id:Nat) (kw:V→List (Nat × Option Blk)→Option β):storeBK sz off id (.own i v) (some (.box (dcells (GTerm.cells x)))) kw = storeBK sz off id (.own i v) (some (.box [.d (.int .i64 x.Op),.d (.int .i64 x.N),.d (.sl (cM cD x.Args))])) kw:=rfl
theorem GTerm.st_agg {β:Type} (x:GTerm) (y:List V) (sz off id:Nat) (kw:V→List (Nat × Option Blk)→Option β):storeBK sz off id (.agg y) (some (.box (dcells (GTerm.cells x)))) kw = storeBK sz off id (.agg y) (some (.box [.d (.int .i64 x.Op),.d (.int .i64 x.N),.d (.sl (cM cD x.Args))])) kw:=rfl
theorem GTerm.st_ptr {β:Type} (x:GTerm) (i v:Nat) (sz off id:Nat) (kw:V→List (Nat × Option Blk)→Option β):storeBK sz off id (.ptr i v) (some (.box (dcells (GTerm.cells x)))) kw = storeBK sz off id (.ptr i v) (some (.box [.d (.int .i64 x.Op),.d (.int .i64 x.N),.d (.sl (cM cD x.Args))])) kw:=rfl
theorem GTerm.part {β:Type} (x:GTerm) (off id:Nat) (b:Option Blk) (kw:V→List (Nat × Option Blk)→Option β):storeBK 3 (off + 1) id (aggD (GTerm.cells x)) b kw = storeBK 3 (off + 1) id (.agg [.d (.int .i64 x.Op),.d (.int .i64 x.N),.d (.sl (cM cD x.Args))]) b kw:=rfl
theorem GTerm.put {β:Type} (x:GTerm) (id:Nat) (cs:List V) (hc:cs.length = 3) (kw:V→List (Nat × Option Blk)→Option β):storeBK 3 0 id (aggD (GTerm.cells x)) (some (.box cs)) kw = kw .any [(id,some (.box (dcells (GTerm.cells x))))]:=storeBK_packed 3 id _ rfl cs hc
theorem GTerm.rset {β:Type} (x:GTerm) (off:Nat) (d:D) (ds:List D) (n:Nat) (k:List D→Option β):rowSetK (GTerm.cells x) off (d :: ds) n k = rowSetK [.int .i64 x.Op,.int .i64 x.N,.sl (cM cD x.Args)] off (d :: ds) n k:=rfl
theorem GTerm.rfull {β:Type} (x y:GTerm) (k:List D→Option β):rowSetK (GTerm.cells x) 0 (GTerm.cells y) 3 k = k (GTerm.cells y):=by unfold rowSetK; exact (if_pos ⟨rfl,Nat.le_refl _⟩).trans rfl
theorem GTerm.get0 {β:Type} (x:GTerm) (k:D→Option β):dgetK (GTerm.cells x) 0 k = k (.int .i64 x.Op):=rfl
theorem GTerm.get1 {β:Type} (x:GTerm) (k:D→Option β):dgetK (GTerm.cells x) 1 k = k (.int .i64 x.N):=rfl
theorem GTerm.get2 {β:Type} (x:GTerm) (k:D→Option β):dgetK (GTerm.cells x) 2 k = k (.sl (cM cD x.Args)):=rfl
theorem GTerm.sub0_3 {β:Type} (x:GTerm) (k:List D→Option β):dsubK (GTerm.cells x) 0 3 k = k (GTerm.cells x):=rfl
theorem GTerm.cells_mk (f0:Int) (f1:Int) (f2:List (List D)):GTerm.cells (GTerm.mk f0 f1 f2) = [.int .i64 f0,.int .i64 f1,.sl (cM cD f2)]:=rfl
structure GRule where
 Ask:Int
 Term:GTerm
 deriving Inhabited
def GRule.cells (x:GRule):List D:=[.int .i64 x.Ask,.int .i64 x.Term.Op,.int .i64 x.Term.N,.sl (cM cD x.Term.Args)]
theorem GRule.sized (xs:List GRule):sized 4 (cM GRule.cells xs) = true:=sized_cM _ _ (fun x=>by rfl) xs
theorem GRule.len (x:GRule):(GRule.cells x).length = 4:=rfl
theorem GRule.size {β:Type} (x:GRule) (y:Option β):sizeK (GRule.cells x) 4 y = y:=rfl
theorem GRule.eq1 {β:Type} (x:GRule) (ks:List Nat) (ys:List V) (k:Bool→Option β):eqCK ks (dcells (GRule.cells x)) ys k = eqCK ks [.d (.int .i64 x.Ask),.d (.int .i64 x.Term.Op),.d (.int .i64 x.Term.N),.d (.sl (cM cD x.Term.Args))] ys k:=rfl
theorem GRule.eq2 {β:Type} (x:GRule) (ks:List Nat) (ys:List V) (k:Bool→Option β):eqCK ks ys (dcells (GRule.cells x)) k = eqCK ks ys [.d (.int .i64 x.Ask),.d (.int .i64 x.Term.Op),.d (.int .i64 x.Term.N),.d (.sl (cM cD x.Term.Args))] k:=rfl
theorem GRule.lens {β:Type} (x:GRule) (y:Option β):lenIs (dcells (GRule.cells x)) 4 y = y:=rfl
theorem GRule.vsets {β:Type} (x:GRule) (z:List V) (o:Nat) (k:List V→Option β):vsetsK z o (dcells (GRule.cells x)) k = vsetsK z o [.d (.int .i64 x.Ask),.d (.int .i64 x.Term.Op),.d (.int .i64 x.Term.N),.d (.sl (cM cD x.Term.Args))] k:=rfl
theorem GRule.st_d {β:Type} (x:GRule) (y:D) (sz off id:Nat) (kw:V→List (Nat × Option Blk)→Option β):storeBK sz off id (.d y) (some (.box (dcells (GRule.cells x)))) kw = storeBK sz off id (.d y) (some (.box [.d (.int .i64 x.Ask),.d (.int .i64 x.Term.Op),.d (.int .i64 x.Term.N),.d (.sl (cM cD x.Term.Args))])) kw:=rfl
theorem GRule.st_nil {β:Type} (x:GRule)  (sz off id:Nat) (kw:V→List (Nat × Option Blk)→Option β):storeBK sz off id .nil (some (.box (dcells (GRule.cells x)))) kw = storeBK sz off id .nil (some (.box [.d (.int .i64 x.Ask),.d (.int .i64 x.Term.Op),.d (.int .i64 x.Term.N),.d (.sl (cM cD x.Term.Args))])) kw:=rfl
theorem GRule.st_own {β:Type} (x:GRule) (i v:Nat) (sz off id:Nat) (kw:V→List (Nat × Option Blk)→Option β):storeBK sz off id (.own i v) (some (.box (dcells (GRule.cells x)))) kw = storeBK sz off id (.own i v) (some (.box [.d (.int .i64 x.Ask),.d (.int .i64 x.Term.Op),.d (.int .i64 x.Term.N),.d (.sl (cM cD x.Term.Args))])) kw:=rfl
theorem GRule.st_agg {β:Type} (x:GRule) (y:List V) (sz off id:Nat) (kw:V→List (Nat × Option Blk)→Option β):storeBK sz off id (.agg y) (some (.box (dcells (GRule.cells x)))) kw = storeBK sz off id (.agg y) (some (.box [.d (.int .i64 x.Ask),.d (.int .i64 x.Term.Op),.d (.int .i64 x.Term.N),.d (.sl (cM cD x.Term.Args))])) kw:=rfl
theorem GRule.st_ptr {β:Type} (x:GRule) (i v:Nat) (sz off id:Nat) (kw:V→List (Nat × Option Blk)→Option β):storeBK sz off id (.ptr i v) (some (.box (dcells (GRule.cells x)))) kw = storeBK sz off id (.ptr i v) (some (.box [.d (.int .i64 x.Ask),.d (.int .i64 x.Term.Op),.d (.int .i64 x.Term.N),.d (.sl (cM cD x.Term.Args))])) kw:=rfl
theorem GRule.part {β:Type} (x:GRule) (off id:Nat) (b:Option Blk) (kw:V→List (Nat × Option Blk)→Option β):storeBK 4 (off + 1) id (aggD (GRule.cells x)) b kw = storeBK 4 (off + 1) id (.agg [.d (.int .i64 x.Ask),.d (.int .i64 x.Term.Op),.d (.int .i64 x.Term.N),.d (.sl (cM cD x.Term.Args))]) b kw:=rfl
theorem GRule.put {β:Type} (x:GRule) (id:Nat) (cs:List V) (hc:cs.length = 4) (kw:V→List (Nat × Option Blk)→Option β):storeBK 4 0 id (aggD (GRule.cells x)) (some (.box cs)) kw = kw .any [(id,some (.box (dcells (GRule.cells x))))]:=storeBK_packed 4 id _ rfl cs hc
theorem GRule.rset {β:Type} (x:GRule) (off:Nat) (d:D) (ds:List D) (n:Nat) (k:List D→Option β):rowSetK (GRule.cells x) off (d :: ds) n k = rowSetK [.int .i64 x.Ask,.int .i64 x.Term.Op,.int .i64 x.Term.N,.sl (cM cD x.Term.Args)] off (d :: ds) n k:=rfl
theorem GRule.rfull {β:Type} (x y:GRule) (k:List D→Option β):rowSetK (GRule.cells x) 0 (GRule.cells y) 4 k = k (GRule.cells y):=by unfold rowSetK; exact (if_pos ⟨rfl,Nat.le_refl _⟩).trans rfl
theorem GRule.get0 {β:Type} (x:GRule) (k:D→Option β):dgetK (GRule.cells x) 0 k = k (.int .i64 x.Ask):=rfl
theorem GRule.get1 {β:Type} (x:GRule) (k:D→Option β):dgetK (GRule.cells x) 1 k = k (.int .i64 x.Term.Op):=rfl
theorem GRule.get2 {β:Type} (x:GRule) (k:D→Option β):dgetK (GRule.cells x) 2 k = k (.int .i64 x.Term.N):=rfl
theorem GRule.get3 {β:Type} (x:GRule) (k:D→Option β):dgetK (GRule.cells x) 3 k = k (.sl (cM cD x.Term.Args)):=rfl
theorem GRule.sub0_4 {β:Type} (x:GRule) (k:List D→Option β):dsubK (GRule.cells x) 0 4 k = k (GRule.cells x):=rfl
theorem GRule.sub1_3 {β:Type} (x:GRule) (k:List D→Option β):dsubK (GRule.cells x) 1 3 k = k (GTerm.cells x.Term):=rfl
theorem GRule.cells_mk (f0:Int) (f1:GTerm):GRule.cells (GRule.mk f0 f1) = [.int .i64 f0,.int .i64 f1.Op,.int .i64 f1.N,.sl (cM cD f1.Args)]:=rfl
structure GOrder where
 Name:ByteArray
 Accepts:Bool
 Choices:List GChoice
 Rules:List GRule
 deriving Inhabited
def GOrder.cells (x:GOrder):List D:=[.str x.Name,.bool x.Accepts,.sl (cM GChoice.cells x.Choices),.sl (cM GRule.cells x.Rules)]
theorem GOrder.sized (xs:List GOrder):sized 4 (cM GOrder.cells xs) = true:=sized_cM _ _ (fun x=>by rfl) xs
theorem GOrder.len (x:GOrder):(GOrder.cells x).length = 4:=rfl
theorem GOrder.size {β:Type} (x:GOrder) (y:Option β):sizeK (GOrder.cells x) 4 y = y:=rfl
theorem GOrder.eq1 {β:Type} (x:GOrder) (ks:List Nat) (ys:List V) (k:Bool→Option β):eqCK ks (dcells (GOrder.cells x)) ys k = eqCK ks [.d (.str x.Name),.d (.bool x.Accepts),.d (.sl (cM GChoice.cells x.Choices)),.d (.sl (cM GRule.cells x.Rules))] ys k:=rfl
theorem GOrder.eq2 {β:Type} (x:GOrder) (ks:List Nat) (ys:List V) (k:Bool→Option β):eqCK ks ys (dcells (GOrder.cells x)) k = eqCK ks ys [.d (.str x.Name),.d (.bool x.Accepts),.d (.sl (cM GChoice.cells x.Choices)),.d (.sl (cM GRule.cells x.Rules))] k:=rfl
theorem GOrder.lens {β:Type} (x:GOrder) (y:Option β):lenIs (dcells (GOrder.cells x)) 4 y = y:=rfl
theorem GOrder.vsets {β:Type} (x:GOrder) (z:List V) (o:Nat) (k:List V→Option β):vsetsK z o (dcells (GOrder.cells x)) k = vsetsK z o [.d (.str x.Name),.d (.bool x.Accepts),.d (.sl (cM GChoice.cells x.Choices)),.d (.sl (cM GRule.cells x.Rules))] k:=rfl
theorem GOrder.st_d {β:Type} (x:GOrder) (y:D) (sz off id:Nat) (kw:V→List (Nat × Option Blk)→Option β):storeBK sz off id (.d y) (some (.box (dcells (GOrder.cells x)))) kw = storeBK sz off id (.d y) (some (.box [.d (.str x.Name),.d (.bool x.Accepts),.d (.sl (cM GChoice.cells x.Choices)),.d (.sl (cM GRule.cells x.Rules))])) kw:=rfl
theorem GOrder.st_nil {β:Type} (x:GOrder)  (sz off id:Nat) (kw:V→List (Nat × Option Blk)→Option β):storeBK sz off id .nil (some (.box (dcells (GOrder.cells x)))) kw = storeBK sz off id .nil (some (.box [.d (.str x.Name),.d (.bool x.Accepts),.d (.sl (cM GChoice.cells x.Choices)),.d (.sl (cM GRule.cells x.Rules))])) kw:=rfl
theorem GOrder.st_own {β:Type} (x:GOrder) (i v:Nat) (sz off id:Nat) (kw:V→List (Nat × Option Blk)→Option β):storeBK sz off id (.own i v) (some (.box (dcells (GOrder.cells x)))) kw = storeBK sz off id (.own i v) (some (.box [.d (.str x.Name),.d (.bool x.Accepts),.d (.sl (cM GChoice.cells x.Choices)),.d (.sl (cM GRule.cells x.Rules))])) kw:=rfl
theorem GOrder.st_agg {β:Type} (x:GOrder) (y:List V) (sz off id:Nat) (kw:V→List (Nat × Option Blk)→Option β):storeBK sz off id (.agg y) (some (.box (dcells (GOrder.cells x)))) kw = storeBK sz off id (.agg y) (some (.box [.d (.str x.Name),.d (.bool x.Accepts),.d (.sl (cM GChoice.cells x.Choices)),.d (.sl (cM GRule.cells x.Rules))])) kw:=rfl
theorem GOrder.st_ptr {β:Type} (x:GOrder) (i v:Nat) (sz off id:Nat) (kw:V→List (Nat × Option Blk)→Option β):storeBK sz off id (.ptr i v) (some (.box (dcells (GOrder.cells x)))) kw = storeBK sz off id (.ptr i v) (some (.box [.d (.str x.Name),.d (.bool x.Accepts),.d (.sl (cM GChoice.cells x.Choices)),.d (.sl (cM GRule.cells x.Rules))])) kw:=rfl
theorem GOrder.part {β:Type} (x:GOrder) (off id:Nat) (b:Option Blk) (kw:V→List (Nat × Option Blk)→Option β):storeBK 4 (off + 1) id (aggD (GOrder.cells x)) b kw = storeBK 4 (off + 1) id (.agg [.d (.str x.Name),.d (.bool x.Accepts),.d (.sl (cM GChoice.cells x.Choices)),.d (.sl (cM GRule.cells x.Rules))]) b kw:=rfl
theorem GOrder.put {β:Type} (x:GOrder) (id:Nat) (cs:List V) (hc:cs.length = 4) (kw:V→List (Nat × Option Blk)→Option β):storeBK 4 0 id (aggD (GOrder.cells x)) (some (.box cs)) kw = kw .any [(id,some (.box (dcells (GOrder.cells x))))]:=storeBK_packed 4 id _ rfl cs hc
theorem GOrder.rset {β:Type} (x:GOrder) (off:Nat) (d:D) (ds:List D) (n:Nat) (k:List D→Option β):rowSetK (GOrder.cells x) off (d :: ds) n k = rowSetK [.str x.Name,.bool x.Accepts,.sl (cM GChoice.cells x.Choices),.sl (cM GRule.cells x.Rules)] off (d :: ds) n k:=rfl
theorem GOrder.rfull {β:Type} (x y:GOrder) (k:List D→Option β):rowSetK (GOrder.cells x) 0 (GOrder.cells y) 4 k = k (GOrder.cells y):=by unfold rowSetK; exact (if_pos ⟨rfl,Nat.le_refl _⟩).trans rfl
theorem GOrder.get0 {β:Type} (x:GOrder) (k:D→Option β):dgetK (GOrder.cells x) 0 k = k (.str x.Name):=rfl
theorem GOrder.get1 {β:Type} (x:GOrder) (k:D→Option β):dgetK (GOrder.cells x) 1 k = k (.bool x.Accepts):=rfl
theorem GOrder.get2 {β:Type} (x:GOrder) (k:D→Option β):dgetK (GOrder.cells x) 2 k = k (.sl (cM GChoice.cells x.Choices)):=rfl
theorem GOrder.get3 {β:Type} (x:GOrder) (k:D→Option β):dgetK (GOrder.cells x) 3 k = k (.sl (cM GRule.cells x.Rules)):=rfl
theorem GOrder.sub0_4 {β:Type} (x:GOrder) (k:List D→Option β):dsubK (GOrder.cells x) 0 4 k = k (GOrder.cells x):=rfl
theorem GOrder.cells_mk (f0:ByteArray) (f1:Bool) (f2:List GChoice) (f3:List GRule):GOrder.cells (GOrder.mk f0 f1 f2 f3) = [.str f0,.bool f1,.sl (cM GChoice.cells f2),.sl (cM GRule.cells f3)]:=rfl
structure GUsance where
 From:Int
 To:Int
 Days:Int
 deriving Inhabited
def GUsance.cells (x:GUsance):List D:=[.int .i64 x.From,.int .i64 x.To,.int .i64 x.Days]
theorem GUsance.sized (xs:List GUsance):sized 3 (cM GUsance.cells xs) = true:=sized_cM _ _ (fun x=>by rfl) xs
theorem GUsance.len (x:GUsance):(GUsance.cells x).length = 3:=rfl
theorem GUsance.size {β:Type} (x:GUsance) (y:Option β):sizeK (GUsance.cells x) 3 y = y:=rfl
theorem GUsance.eq1 {β:Type} (x:GUsance) (ks:List Nat) (ys:List V) (k:Bool→Option β):eqCK ks (dcells (GUsance.cells x)) ys k = eqCK ks [.d (.int .i64 x.From),.d (.int .i64 x.To),.d (.int .i64 x.Days)] ys k:=rfl
theorem GUsance.eq2 {β:Type} (x:GUsance) (ks:List Nat) (ys:List V) (k:Bool→Option β):eqCK ks ys (dcells (GUsance.cells x)) k = eqCK ks ys [.d (.int .i64 x.From),.d (.int .i64 x.To),.d (.int .i64 x.Days)] k:=rfl
theorem GUsance.lens {β:Type} (x:GUsance) (y:Option β):lenIs (dcells (GUsance.cells x)) 3 y = y:=rfl
theorem GUsance.vsets {β:Type} (x:GUsance) (z:List V) (o:Nat) (k:List V→Option β):vsetsK z o (dcells (GUsance.cells x)) k = vsetsK z o [.d (.int .i64 x.From),.d (.int .i64 x.To),.d (.int .i64 x.Days)] k:=rfl
theorem GUsance.st_d {β:Type} (x:GUsance) (y:D) (sz off id:Nat) (kw:V→List (Nat × Option Blk)→Option β):storeBK sz off id (.d y) (some (.box (dcells (GUsance.cells x)))) kw = storeBK sz off id (.d y) (some (.box [.d (.int .i64 x.From),.d (.int .i64 x.To),.d (.int .i64 x.Days)])) kw:=rfl
theorem GUsance.st_nil {β:Type} (x:GUsance)  (sz off id:Nat) (kw:V→List (Nat × Option Blk)→Option β):storeBK sz off id .nil (some (.box (dcells (GUsance.cells x)))) kw = storeBK sz off id .nil (some (.box [.d (.int .i64 x.From),.d (.int .i64 x.To),.d (.int .i64 x.Days)])) kw:=rfl
theorem GUsance.st_own {β:Type} (x:GUsance) (i v:Nat) (sz off id:Nat) (kw:V→List (Nat × Option Blk)→Option β):storeBK sz off id (.own i v) (some (.box (dcells (GUsance.cells x)))) kw = storeBK sz off id (.own i v) (some (.box [.d (.int .i64 x.From),.d (.int .i64 x.To),.d (.int .i64 x.Days)])) kw:=rfl
theorem GUsance.st_agg {β:Type} (x:GUsance) (y:List V) (sz off id:Nat) (kw:V→List (Nat × Option Blk)→Option β):storeBK sz off id (.agg y) (some (.box (dcells (GUsance.cells x)))) kw = storeBK sz off id (.agg y) (some (.box [.d (.int .i64 x.From),.d (.int .i64 x.To),.d (.int .i64 x.Days)])) kw:=rfl
theorem GUsance.st_ptr {β:Type} (x:GUsance) (i v:Nat) (sz off id:Nat) (kw:V→List (Nat × Option Blk)→Option β):storeBK sz off id (.ptr i v) (some (.box (dcells (GUsance.cells x)))) kw = storeBK sz off id (.ptr i v) (some (.box [.d (.int .i64 x.From),.d (.int .i64 x.To),.d (.int .i64 x.Days)])) kw:=rfl
theorem GUsance.part {β:Type} (x:GUsance) (off id:Nat) (b:Option Blk) (kw:V→List (Nat × Option Blk)→Option β):storeBK 3 (off + 1) id (aggD (GUsance.cells x)) b kw = storeBK 3 (off + 1) id (.agg [.d (.int .i64 x.From),.d (.int .i64 x.To),.d (.int .i64 x.Days)]) b kw:=rfl
theorem GUsance.put {β:Type} (x:GUsance) (id:Nat) (cs:List V) (hc:cs.length = 3) (kw:V→List (Nat × Option Blk)→Option β):storeBK 3 0 id (aggD (GUsance.cells x)) (some (.box cs)) kw = kw .any [(id,some (.box (dcells (GUsance.cells x))))]:=storeBK_packed 3 id _ rfl cs hc
theorem GUsance.rset {β:Type} (x:GUsance) (off:Nat) (d:D) (ds:List D) (n:Nat) (k:List D→Option β):rowSetK (GUsance.cells x) off (d :: ds) n k = rowSetK [.int .i64 x.From,.int .i64 x.To,.int .i64 x.Days] off (d :: ds) n k:=rfl
theorem GUsance.rfull {β:Type} (x y:GUsance) (k:List D→Option β):rowSetK (GUsance.cells x) 0 (GUsance.cells y) 3 k = k (GUsance.cells y):=by unfold rowSetK; exact (if_pos ⟨rfl,Nat.le_refl _⟩).trans rfl
theorem GUsance.get0 {β:Type} (x:GUsance) (k:D→Option β):dgetK (GUsance.cells x) 0 k = k (.int .i64 x.From):=rfl
theorem GUsance.get1 {β:Type} (x:GUsance) (k:D→Option β):dgetK (GUsance.cells x) 1 k = k (.int .i64 x.To):=rfl
theorem GUsance.get2 {β:Type} (x:GUsance) (k:D→Option β):dgetK (GUsance.cells x) 2 k = k (.int .i64 x.Days):=rfl
theorem GUsance.sub0_3 {β:Type} (x:GUsance) (k:List D→Option β):dsubK (GUsance.cells x) 0 3 k = k (GUsance.cells x):=rfl
theorem GUsance.cells_mk (f0:Int) (f1:Int) (f2:Int):GUsance.cells (GUsance.mk f0 f1 f2) = [.int .i64 f0,.int .i64 f1,.int .i64 f2]:=rfl
structure GRate where
 From:Int
 To:Int
 Num:Int
 Den:Int
 Since:Int
 deriving Inhabited
def GRate.cells (x:GRate):List D:=[.int .i64 x.From,.int .i64 x.To,.int .i64 x.Num,.int .i64 x.Den,.int .i64 x.Since]
theorem GRate.sized (xs:List GRate):sized 5 (cM GRate.cells xs) = true:=sized_cM _ _ (fun x=>by rfl) xs
theorem GRate.len (x:GRate):(GRate.cells x).length = 5:=rfl
theorem GRate.size {β:Type} (x:GRate) (y:Option β):sizeK (GRate.cells x) 5 y = y:=rfl
theorem GRate.eq1 {β:Type} (x:GRate) (ks:List Nat) (ys:List V) (k:Bool→Option β):eqCK ks (dcells (GRate.cells x)) ys k = eqCK ks [.d (.int .i64 x.From),.d (.int .i64 x.To),.d (.int .i64 x.Num),.d (.int .i64 x.Den),.d (.int .i64 x.Since)] ys k:=rfl
theorem GRate.eq2 {β:Type} (x:GRate) (ks:List Nat) (ys:List V) (k:Bool→Option β):eqCK ks ys (dcells (GRate.cells x)) k = eqCK ks ys [.d (.int .i64 x.From),.d (.int .i64 x.To),.d (.int .i64 x.Num),.d (.int .i64 x.Den),.d (.int .i64 x.Since)] k:=rfl
theorem GRate.lens {β:Type} (x:GRate) (y:Option β):lenIs (dcells (GRate.cells x)) 5 y = y:=rfl
theorem GRate.vsets {β:Type} (x:GRate) (z:List V) (o:Nat) (k:List V→Option β):vsetsK z o (dcells (GRate.cells x)) k = vsetsK z o [.d (.int .i64 x.From),.d (.int .i64 x.To),.d (.int .i64 x.Num),.d (.int .i64 x.Den),.d (.int .i64 x.Since)] k:=rfl
theorem GRate.st_d {β:Type} (x:GRate) (y:D) (sz off id:Nat) (kw:V→List (Nat × Option Blk)→Option β):storeBK sz off id (.d y) (some (.box (dcells (GRate.cells x)))) kw = storeBK sz off id (.d y) (some (.box [.d (.int .i64 x.From),.d (.int .i64 x.To),.d (.int .i64 x.Num),.d (.int .i64 x.Den),.d (.int .i64 x.Since)])) kw:=rfl
theorem GRate.st_nil {β:Type} (x:GRate)  (sz off id:Nat) (kw:V→List (Nat × Option Blk)→Option β):storeBK sz off id .nil (some (.box (dcells (GRate.cells x)))) kw = storeBK sz off id .nil (some (.box [.d (.int .i64 x.From),.d (.int .i64 x.To),.d (.int .i64 x.Num),.d (.int .i64 x.Den),.d (.int .i64 x.Since)])) kw:=rfl
theorem GRate.st_own {β:Type} (x:GRate) (i v:Nat) (sz off id:Nat) (kw:V→List (Nat × Option Blk)→Option β):storeBK sz off id (.own i v) (some (.box (dcells (GRate.cells x)))) kw = storeBK sz off id (.own i v) (some (.box [.d (.int .i64 x.From),.d (.int .i64 x.To),.d (.int .i64 x.Num),.d (.int .i64 x.Den),.d (.int .i64 x.Since)])) kw:=rfl
theorem GRate.st_agg {β:Type} (x:GRate) (y:List V) (sz off id:Nat) (kw:V→List (Nat × Option Blk)→Option β):storeBK sz off id (.agg y) (some (.box (dcells (GRate.cells x)))) kw = storeBK sz off id (.agg y) (some (.box [.d (.int .i64 x.From),.d (.int .i64 x.To),.d (.int .i64 x.Num),.d (.int .i64 x.Den),.d (.int .i64 x.Since)])) kw:=rfl
theorem GRate.st_ptr {β:Type} (x:GRate) (i v:Nat) (sz off id:Nat) (kw:V→List (Nat × Option Blk)→Option β):storeBK sz off id (.ptr i v) (some (.box (dcells (GRate.cells x)))) kw = storeBK sz off id (.ptr i v) (some (.box [.d (.int .i64 x.From),.d (.int .i64 x.To),.d (.int .i64 x.Num),.d (.int .i64 x.Den),.d (.int .i64 x.Since)])) kw:=rfl
theorem GRate.part {β:Type} (x:GRate) (off id:Nat) (b:Option Blk) (kw:V→List (Nat × Option Blk)→Option β):storeBK 5 (off + 1) id (aggD (GRate.cells x)) b kw = storeBK 5 (off + 1) id (.agg [.d (.int .i64 x.From),.d (.int .i64 x.To),.d (.int .i64 x.Num),.d (.int .i64 x.Den),.d (.int .i64 x.Since)]) b kw:=rfl
theorem GRate.put {β:Type} (x:GRate) (id:Nat) (cs:List V) (hc:cs.length = 5) (kw:V→List (Nat × Option Blk)→Option β):storeBK 5 0 id (aggD (GRate.cells x)) (some (.box cs)) kw = kw .any [(id,some (.box (dcells (GRate.cells x))))]:=storeBK_packed 5 id _ rfl cs hc
theorem GRate.rset {β:Type} (x:GRate) (off:Nat) (d:D) (ds:List D) (n:Nat) (k:List D→Option β):rowSetK (GRate.cells x) off (d :: ds) n k = rowSetK [.int .i64 x.From,.int .i64 x.To,.int .i64 x.Num,.int .i64 x.Den,.int .i64 x.Since] off (d :: ds) n k:=rfl
theorem GRate.rfull {β:Type} (x y:GRate) (k:List D→Option β):rowSetK (GRate.cells x) 0 (GRate.cells y) 5 k = k (GRate.cells y):=by unfold rowSetK; exact (if_pos ⟨rfl,Nat.le_refl _⟩).trans rfl
theorem GRate.get0 {β:Type} (x:GRate) (k:D→Option β):dgetK (GRate.cells x) 0 k = k (.int .i64 x.From):=rfl
theorem GRate.get1 {β:Type} (x:GRate) (k:D→Option β):dgetK (GRate.cells x) 1 k = k (.int .i64 x.To):=rfl
theorem GRate.get2 {β:Type} (x:GRate) (k:D→Option β):dgetK (GRate.cells x) 2 k = k (.int .i64 x.Num):=rfl
theorem GRate.get3 {β:Type} (x:GRate) (k:D→Option β):dgetK (GRate.cells x) 3 k = k (.int .i64 x.Den):=rfl
theorem GRate.get4 {β:Type} (x:GRate) (k:D→Option β):dgetK (GRate.cells x) 4 k = k (.int .i64 x.Since):=rfl
theorem GRate.sub0_5 {β:Type} (x:GRate) (k:List D→Option β):dsubK (GRate.cells x) 0 5 k = k (GRate.cells x):=rfl
theorem GRate.cells_mk (f0:Int) (f1:Int) (f2:Int) (f3:Int) (f4:Int):GRate.cells (GRate.mk f0 f1 f2 f3 f4) = [.int .i64 f0,.int .i64 f1,.int .i64 f2,.int .i64 f3,.int .i64 f4]:=rfl
structure GHalt where
 Order:Int
 From:Int
 To:Int
 deriving Inhabited
def GHalt.cells (x:GHalt):List D:=[.int .i64 x.Order,.int .i64 x.From,.int .i64 x.To]
theorem GHalt.sized (xs:List GHalt):sized 3 (cM GHalt.cells xs) = true:=sized_cM _ _ (fun x=>by rfl) xs
theorem GHalt.len (x:GHalt):(GHalt.cells x).length = 3:=rfl
theorem GHalt.size {β:Type} (x:GHalt) (y:Option β):sizeK (GHalt.cells x) 3 y = y:=rfl
theorem GHalt.eq1 {β:Type} (x:GHalt) (ks:List Nat) (ys:List V) (k:Bool→Option β):eqCK ks (dcells (GHalt.cells x)) ys k = eqCK ks [.d (.int .i64 x.Order),.d (.int .i64 x.From),.d (.int .i64 x.To)] ys k:=rfl
theorem GHalt.eq2 {β:Type} (x:GHalt) (ks:List Nat) (ys:List V) (k:Bool→Option β):eqCK ks ys (dcells (GHalt.cells x)) k = eqCK ks ys [.d (.int .i64 x.Order),.d (.int .i64 x.From),.d (.int .i64 x.To)] k:=rfl
theorem GHalt.lens {β:Type} (x:GHalt) (y:Option β):lenIs (dcells (GHalt.cells x)) 3 y = y:=rfl
theorem GHalt.vsets {β:Type} (x:GHalt) (z:List V) (o:Nat) (k:List V→Option β):vsetsK z o (dcells (GHalt.cells x)) k = vsetsK z o [.d (.int .i64 x.Order),.d (.int .i64 x.From),.d (.int .i64 x.To)] k:=rfl
theorem GHalt.st_d {β:Type} (x:GHalt) (y:D) (sz off id:Nat) (kw:V→List (Nat × Option Blk)→Option β):storeBK sz off id (.d y) (some (.box (dcells (GHalt.cells x)))) kw = storeBK sz off id (.d y) (some (.box [.d (.int .i64 x.Order),.d (.int .i64 x.From),.d (.int .i64 x.To)])) kw:=rfl
theorem GHalt.st_nil {β:Type} (x:GHalt)  (sz off id:Nat) (kw:V→List (Nat × Option Blk)→Option β):storeBK sz off id .nil (some (.box (dcells (GHalt.cells x)))) kw = storeBK sz off id .nil (some (.box [.d (.int .i64 x.Order),.d (.int .i64 x.From),.d (.int .i64 x.To)])) kw:=rfl
theorem GHalt.st_own {β:Type} (x:GHalt) (i v:Nat) (sz off id:Nat) (kw:V→List (Nat × Option Blk)→Option β):storeBK sz off id (.own i v) (some (.box (dcells (GHalt.cells x)))) kw = storeBK sz off id (.own i v) (some (.box [.d (.int .i64 x.Order),.d (.int .i64 x.From),.d (.int .i64 x.To)])) kw:=rfl
theorem GHalt.st_agg {β:Type} (x:GHalt) (y:List V) (sz off id:Nat) (kw:V→List (Nat × Option Blk)→Option β):storeBK sz off id (.agg y) (some (.box (dcells (GHalt.cells x)))) kw = storeBK sz off id (.agg y) (some (.box [.d (.int .i64 x.Order),.d (.int .i64 x.From),.d (.int .i64 x.To)])) kw:=rfl
theorem GHalt.st_ptr {β:Type} (x:GHalt) (i v:Nat) (sz off id:Nat) (kw:V→List (Nat × Option Blk)→Option β):storeBK sz off id (.ptr i v) (some (.box (dcells (GHalt.cells x)))) kw = storeBK sz off id (.ptr i v) (some (.box [.d (.int .i64 x.Order),.d (.int .i64 x.From),.d (.int .i64 x.To)])) kw:=rfl
theorem GHalt.part {β:Type} (x:GHalt) (off id:Nat) (b:Option Blk) (kw:V→List (Nat × Option Blk)→Option β):storeBK 3 (off + 1) id (aggD (GHalt.cells x)) b kw = storeBK 3 (off + 1) id (.agg [.d (.int .i64 x.Order),.d (.int .i64 x.From),.d (.int .i64 x.To)]) b kw:=rfl
theorem GHalt.put {β:Type} (x:GHalt) (id:Nat) (cs:List V) (hc:cs.length = 3) (kw:V→List (Nat × Option Blk)→Option β):storeBK 3 0 id (aggD (GHalt.cells x)) (some (.box cs)) kw = kw .any [(id,some (.box (dcells (GHalt.cells x))))]:=storeBK_packed 3 id _ rfl cs hc
theorem GHalt.rset {β:Type} (x:GHalt) (off:Nat) (d:D) (ds:List D) (n:Nat) (k:List D→Option β):rowSetK (GHalt.cells x) off (d :: ds) n k = rowSetK [.int .i64 x.Order,.int .i64 x.From,.int .i64 x.To] off (d :: ds) n k:=rfl
theorem GHalt.rfull {β:Type} (x y:GHalt) (k:List D→Option β):rowSetK (GHalt.cells x) 0 (GHalt.cells y) 3 k = k (GHalt.cells y):=by unfold rowSetK; exact (if_pos ⟨rfl,Nat.le_refl _⟩).trans rfl
theorem GHalt.get0 {β:Type} (x:GHalt) (k:D→Option β):dgetK (GHalt.cells x) 0 k = k (.int .i64 x.Order):=rfl
theorem GHalt.get1 {β:Type} (x:GHalt) (k:D→Option β):dgetK (GHalt.cells x) 1 k = k (.int .i64 x.From):=rfl
theorem GHalt.get2 {β:Type} (x:GHalt) (k:D→Option β):dgetK (GHalt.cells x) 2 k = k (.int .i64 x.To):=rfl
theorem GHalt.sub0_3 {β:Type} (x:GHalt) (k:List D→Option β):dsubK (GHalt.cells x) 0 3 k = k (GHalt.cells x):=rfl
theorem GHalt.cells_mk (f0:Int) (f1:Int) (f2:Int):GHalt.cells (GHalt.mk f0 f1 f2) = [.int .i64 f0,.int .i64 f1,.int .i64 f2]:=rfl
structure GRealm where
 Currencies:List ByteArray
 Cities:List GCity
 Groups:List GGroup
 Firms:List GFirm
 Orders:List GOrder
 Usances:List GUsance
 Rates:List GRate
 Halts:List GHalt
 deriving Inhabited
def GRealm.cells (x:GRealm):List D:=[.sl (cM cS x.Currencies),.sl (cM GCity.cells x.Cities),.sl (cM GGroup.cells x.Groups),.sl (cM GFirm.cells x.Firms),.sl (cM GOrder.cells x.Orders),.sl (cM GUsance.cells x.Usances),.sl (cM GRate.cells x.Rates),.sl (cM GHalt.cells x.Halts)]
theorem GRealm.sized (xs:List GRealm):sized 8 (cM GRealm.cells xs) = true:=sized_cM _ _ (fun x=>by rfl) xs
theorem GRealm.len (x:GRealm):(GRealm.cells x).length = 8:=rfl
theorem GRealm.size {β:Type} (x:GRealm) (y:Option β):sizeK (GRealm.cells x) 8 y = y:=rfl
theorem GRealm.eq1 {β:Type} (x:GRealm) (ks:List Nat) (ys:List V) (k:Bool→Option β):eqCK ks (dcells (GRealm.cells x)) ys k = eqCK ks [.d (.sl (cM cS x.Currencies)),.d (.sl (cM GCity.cells x.Cities)),.d (.sl (cM GGroup.cells x.Groups)),.d (.sl (cM GFirm.cells x.Firms)),.d (.sl (cM GOrder.cells x.Orders)),.d (.sl (cM GUsance.cells x.Usances)),.d (.sl (cM GRate.cells x.Rates)),.d (.sl (cM GHalt.cells x.Halts))] ys k:=rfl
theorem GRealm.eq2 {β:Type} (x:GRealm) (ks:List Nat) (ys:List V) (k:Bool→Option β):eqCK ks ys (dcells (GRealm.cells x)) k = eqCK ks ys [.d (.sl (cM cS x.Currencies)),.d (.sl (cM GCity.cells x.Cities)),.d (.sl (cM GGroup.cells x.Groups)),.d (.sl (cM GFirm.cells x.Firms)),.d (.sl (cM GOrder.cells x.Orders)),.d (.sl (cM GUsance.cells x.Usances)),.d (.sl (cM GRate.cells x.Rates)),.d (.sl (cM GHalt.cells x.Halts))] k:=rfl
theorem GRealm.lens {β:Type} (x:GRealm) (y:Option β):lenIs (dcells (GRealm.cells x)) 8 y = y:=rfl
theorem GRealm.vsets {β:Type} (x:GRealm) (z:List V) (o:Nat) (k:List V→Option β):vsetsK z o (dcells (GRealm.cells x)) k = vsetsK z o [.d (.sl (cM cS x.Currencies)),.d (.sl (cM GCity.cells x.Cities)),.d (.sl (cM GGroup.cells x.Groups)),.d (.sl (cM GFirm.cells x.Firms)),.d (.sl (cM GOrder.cells x.Orders)),.d (.sl (cM GUsance.cells x.Usances)),.d (.sl (cM GRate.cells x.Rates)),.d (.sl (cM GHalt.cells x.Halts))] k:=rfl
theorem GRealm.st_d {β:Type} (x:GRealm) (y:D) (sz off id:Nat) (kw:V→List (Nat × Option Blk)→Option β):storeBK sz off id (.d y) (some (.box (dcells (GRealm.cells x)))) kw = storeBK sz off id (.d y) (some (.box [.d (.sl (cM cS x.Currencies)),.d (.sl (cM GCity.cells x.Cities)),.d (.sl (cM GGroup.cells x.Groups)),.d (.sl (cM GFirm.cells x.Firms)),.d (.sl (cM GOrder.cells x.Orders)),.d (.sl (cM GUsance.cells x.Usances)),.d (.sl (cM GRate.cells x.Rates)),.d (.sl (cM GHalt.cells x.Halts))])) kw:=rfl
theorem GRealm.st_nil {β:Type} (x:GRealm)  (sz off id:Nat) (kw:V→List (Nat × Option Blk)→Option β):storeBK sz off id .nil (some (.box (dcells (GRealm.cells x)))) kw = storeBK sz off id .nil (some (.box [.d (.sl (cM cS x.Currencies)),.d (.sl (cM GCity.cells x.Cities)),.d (.sl (cM GGroup.cells x.Groups)),.d (.sl (cM GFirm.cells x.Firms)),.d (.sl (cM GOrder.cells x.Orders)),.d (.sl (cM GUsance.cells x.Usances)),.d (.sl (cM GRate.cells x.Rates)),.d (.sl (cM GHalt.cells x.Halts))])) kw:=rfl
theorem GRealm.st_own {β:Type} (x:GRealm) (i v:Nat) (sz off id:Nat) (kw:V→List (Nat × Option Blk)→Option β):storeBK sz off id (.own i v) (some (.box (dcells (GRealm.cells x)))) kw = storeBK sz off id (.own i v) (some (.box [.d (.sl (cM cS x.Currencies)),.d (.sl (cM GCity.cells x.Cities)),.d (.sl (cM GGroup.cells x.Groups)),.d (.sl (cM GFirm.cells x.Firms)),.d (.sl (cM GOrder.cells x.Orders)),.d (.sl (cM GUsance.cells x.Usances)),.d (.sl (cM GRate.cells x.Rates)),.d (.sl (cM GHalt.cells x.Halts))])) kw:=rfl
theorem GRealm.st_agg {β:Type} (x:GRealm) (y:List V) (sz off id:Nat) (kw:V→List (Nat × Option Blk)→Option β):storeBK sz off id (.agg y) (some (.box (dcells (GRealm.cells x)))) kw = storeBK sz off id (.agg y) (some (.box [.d (.sl (cM cS x.Currencies)),.d (.sl (cM GCity.cells x.Cities)),.d (.sl (cM GGroup.cells x.Groups)),.d (.sl (cM GFirm.cells x.Firms)),.d (.sl (cM GOrder.cells x.Orders)),.d (.sl (cM GUsance.cells x.Usances)),.d (.sl (cM GRate.cells x.Rates)),.d (.sl (cM GHalt.cells x.Halts))])) kw:=rfl
theorem GRealm.st_ptr {β:Type} (x:GRealm) (i v:Nat) (sz off id:Nat) (kw:V→List (Nat × Option Blk)→Option β):storeBK sz off id (.ptr i v) (some (.box (dcells (GRealm.cells x)))) kw = storeBK sz off id (.ptr i v) (some (.box [.d (.sl (cM cS x.Currencies)),.d (.sl (cM GCity.cells x.Cities)),.d (.sl (cM GGroup.cells x.Groups)),.d (.sl (cM GFirm.cells x.Firms)),.d (.sl (cM GOrder.cells x.Orders)),.d (.sl (cM GUsance.cells x.Usances)),.d (.sl (cM GRate.cells x.Rates)),.d (.sl (cM GHalt.cells x.Halts))])) kw:=rfl
theorem GRealm.part {β:Type} (x:GRealm) (off id:Nat) (b:Option Blk) (kw:V→List (Nat × Option Blk)→Option β):storeBK 8 (off + 1) id (aggD (GRealm.cells x)) b kw = storeBK 8 (off + 1) id (.agg [.d (.sl (cM cS x.Currencies)),.d (.sl (cM GCity.cells x.Cities)),.d (.sl (cM GGroup.cells x.Groups)),.d (.sl (cM GFirm.cells x.Firms)),.d (.sl (cM GOrder.cells x.Orders)),.d (.sl (cM GUsance.cells x.Usances)),.d (.sl (cM GRate.cells x.Rates)),.d (.sl (cM GHalt.cells x.Halts))]) b kw:=rfl
theorem GRealm.put {β:Type} (x:GRealm) (id:Nat) (cs:List V) (hc:cs.length = 8) (kw:V→List (Nat × Option Blk)→Option β):storeBK 8 0 id (aggD (GRealm.cells x)) (some (.box cs)) kw = kw .any [(id,some (.box (dcells (GRealm.cells x))))]:=storeBK_packed 8 id _ rfl cs hc
theorem GRealm.rset {β:Type} (x:GRealm) (off:Nat) (d:D) (ds:List D) (n:Nat) (k:List D→Option β):rowSetK (GRealm.cells x) off (d :: ds) n k = rowSetK [.sl (cM cS x.Currencies),.sl (cM GCity.cells x.Cities),.sl (cM GGroup.cells x.Groups),.sl (cM GFirm.cells x.Firms),.sl (cM GOrder.cells x.Orders),.sl (cM GUsance.cells x.Usances),.sl (cM GRate.cells x.Rates),.sl (cM GHalt.cells x.Halts)] off (d :: ds) n k:=rfl
theorem GRealm.rfull {β:Type} (x y:GRealm) (k:List D→Option β):rowSetK (GRealm.cells x) 0 (GRealm.cells y) 8 k = k (GRealm.cells y):=by unfold rowSetK; exact (if_pos ⟨rfl,Nat.le_refl _⟩).trans rfl
theorem GRealm.get0 {β:Type} (x:GRealm) (k:D→Option β):dgetK (GRealm.cells x) 0 k = k (.sl (cM cS x.Currencies)):=rfl
theorem GRealm.get1 {β:Type} (x:GRealm) (k:D→Option β):dgetK (GRealm.cells x) 1 k = k (.sl (cM GCity.cells x.Cities)):=rfl
theorem GRealm.get2 {β:Type} (x:GRealm) (k:D→Option β):dgetK (GRealm.cells x) 2 k = k (.sl (cM GGroup.cells x.Groups)):=rfl
theorem GRealm.get3 {β:Type} (x:GRealm) (k:D→Option β):dgetK (GRealm.cells x) 3 k = k (.sl (cM GFirm.cells x.Firms)):=rfl
theorem GRealm.get4 {β:Type} (x:GRealm) (k:D→Option β):dgetK (GRealm.cells x) 4 k = k (.sl (cM GOrder.cells x.Orders)):=rfl
theorem GRealm.get5 {β:Type} (x:GRealm) (k:D→Option β):dgetK (GRealm.cells x) 5 k = k (.sl (cM GUsance.cells x.Usances)):=rfl
theorem GRealm.get6 {β:Type} (x:GRealm) (k:D→Option β):dgetK (GRealm.cells x) 6 k = k (.sl (cM GRate.cells x.Rates)):=rfl
theorem GRealm.get7 {β:Type} (x:GRealm) (k:D→Option β):dgetK (GRealm.cells x) 7 k = k (.sl (cM GHalt.cells x.Halts)):=rfl
theorem GRealm.sub0_8 {β:Type} (x:GRealm) (k:List D→Option β):dsubK (GRealm.cells x) 0 8 k = k (GRealm.cells x):=rfl
theorem GRealm.cells_mk (f0:List ByteArray) (f1:List GCity) (f2:List GGroup) (f3:List GFirm) (f4:List GOrder) (f5:List GUsance) (f6:List GRate) (f7:List GHalt):GRealm.cells (GRealm.mk f0 f1 f2 f3 f4 f5 f6 f7) = [.sl (cM cS f0),.sl (cM GCity.cells f1),.sl (cM GGroup.cells f2),.sl (cM GFirm.cells f3),.sl (cM GOrder.cells f4),.sl (cM GUsance.cells f5),.sl (cM GRate.cells f6),.sl (cM GHalt.cells f7)]:=rfl
structure GTenor where
 Kind:Int
 N:Int
 Unit:Int
 deriving Inhabited
def GTenor.cells (x:GTenor):List D:=[.int .i64 x.Kind,.int .i64 x.N,.int .i64 x.Unit]
theorem GTenor.sized (xs:List GTenor):sized 3 (cM GTenor.cells xs) = true:=sized_cM _ _ (fun x=>by rfl) xs
theorem GTenor.len (x:GTenor):(GTenor.cells x).length = 3:=rfl
theorem GTenor.size {β:Type} (x:GTenor) (y:Option β):sizeK (GTenor.cells x) 3 y = y:=rfl
theorem GTenor.eq1 {β:Type} (x:GTenor) (ks:List Nat) (ys:List V) (k:Bool→Option β):eqCK ks (dcells (GTenor.cells x)) ys k = eqCK ks [.d (.int .i64 x.Kind),.d (.int .i64 x.N),.d (.int .i64 x.Unit)] ys k:=rfl
theorem GTenor.eq2 {β:Type} (x:GTenor) (ks:List Nat) (ys:List V) (k:Bool→Option β):eqCK ks ys (dcells (GTenor.cells x)) k = eqCK ks ys [.d (.int .i64 x.Kind),.d (.int .i64 x.N),.d (.int .i64 x.Unit)] k:=rfl
theorem GTenor.lens {β:Type} (x:GTenor) (y:Option β):lenIs (dcells (GTenor.cells x)) 3 y = y:=rfl
theorem GTenor.vsets {β:Type} (x:GTenor) (z:List V) (o:Nat) (k:List V→Option β):vsetsK z o (dcells (GTenor.cells x)) k = vsetsK z o [.d (.int .i64 x.Kind),.d (.int .i64 x.N),.d (.int .i64 x.Unit)] k:=rfl
theorem GTenor.st_d {β:Type} (x:GTenor) (y:D) (sz off id:Nat) (kw:V→List (Nat × Option Blk)→Option β):storeBK sz off id (.d y) (some (.box (dcells (GTenor.cells x)))) kw = storeBK sz off id (.d y) (some (.box [.d (.int .i64 x.Kind),.d (.int .i64 x.N),.d (.int .i64 x.Unit)])) kw:=rfl
theorem GTenor.st_nil {β:Type} (x:GTenor)  (sz off id:Nat) (kw:V→List (Nat × Option Blk)→Option β):storeBK sz off id .nil (some (.box (dcells (GTenor.cells x)))) kw = storeBK sz off id .nil (some (.box [.d (.int .i64 x.Kind),.d (.int .i64 x.N),.d (.int .i64 x.Unit)])) kw:=rfl
theorem GTenor.st_own {β:Type} (x:GTenor) (i v:Nat) (sz off id:Nat) (kw:V→List (Nat × Option Blk)→Option β):storeBK sz off id (.own i v) (some (.box (dcells (GTenor.cells x)))) kw = storeBK sz off id (.own i v) (some (.box [.d (.int .i64 x.Kind),.d (.int .i64 x.N),.d (.int .i64 x.Unit)])) kw:=rfl
theorem GTenor.st_agg {β:Type} (x:GTenor) (y:List V) (sz off id:Nat) (kw:V→List (Nat × Option Blk)→Option β):storeBK sz off id (.agg y) (some (.box (dcells (GTenor.cells x)))) kw = storeBK sz off id (.agg y) (some (.box [.d (.int .i64 x.Kind),.d (.int .i64 x.N),.d (.int .i64 x.Unit)])) kw:=rfl
theorem GTenor.st_ptr {β:Type} (x:GTenor) (i v:Nat) (sz off id:Nat) (kw:V→List (Nat × Option Blk)→Option β):storeBK sz off id (.ptr i v) (some (.box (dcells (GTenor.cells x)))) kw = storeBK sz off id (.ptr i v) (some (.box [.d (.int .i64 x.Kind),.d (.int .i64 x.N),.d (.int .i64 x.Unit)])) kw:=rfl
theorem GTenor.part {β:Type} (x:GTenor) (off id:Nat) (b:Option Blk) (kw:V→List (Nat × Option Blk)→Option β):storeBK 3 (off + 1) id (aggD (GTenor.cells x)) b kw = storeBK 3 (off + 1) id (.agg [.d (.int .i64 x.Kind),.d (.int .i64 x.N),.d (.int .i64 x.Unit)]) b kw:=rfl
theorem GTenor.put {β:Type} (x:GTenor) (id:Nat) (cs:List V) (hc:cs.length = 3) (kw:V→List (Nat × Option Blk)→Option β):storeBK 3 0 id (aggD (GTenor.cells x)) (some (.box cs)) kw = kw .any [(id,some (.box (dcells (GTenor.cells x))))]:=storeBK_packed 3 id _ rfl cs hc
theorem GTenor.rset {β:Type} (x:GTenor) (off:Nat) (d:D) (ds:List D) (n:Nat) (k:List D→Option β):rowSetK (GTenor.cells x) off (d :: ds) n k = rowSetK [.int .i64 x.Kind,.int .i64 x.N,.int .i64 x.Unit] off (d :: ds) n k:=rfl
theorem GTenor.rfull {β:Type} (x y:GTenor) (k:List D→Option β):rowSetK (GTenor.cells x) 0 (GTenor.cells y) 3 k = k (GTenor.cells y):=by unfold rowSetK; exact (if_pos ⟨rfl,Nat.le_refl _⟩).trans rfl
theorem GTenor.get0 {β:Type} (x:GTenor) (k:D→Option β):dgetK (GTenor.cells x) 0 k = k (.int .i64 x.Kind):=rfl
theorem GTenor.get1 {β:Type} (x:GTenor) (k:D→Option β):dgetK (GTenor.cells x) 1 k = k (.int .i64 x.N):=rfl
theorem GTenor.get2 {β:Type} (x:GTenor) (k:D→Option β):dgetK (GTenor.cells x) 2 k = k (.int .i64 x.Unit):=rfl
theorem GTenor.sub0_3 {β:Type} (x:GTenor) (k:List D→Option β):dsubK (GTenor.cells x) 0 3 k = k (GTenor.cells x):=rfl
theorem GTenor.cells_mk (f0:Int) (f1:Int) (f2:Int):GTenor.cells (GTenor.mk f0 f1 f2) = [.int .i64 f0,.int .i64 f1,.int .i64 f2]:=rfl
structure GBill where
 Drawer:Int
 Drawee:Int
 Payee:Int
 Sum:Int
 Currency:Int
 Tenor:GTenor
 Day:Int
 City:Int
 Pay:Int
 Need:Int
 Rate:Int
 Flags:Int
 Parts:Int
 deriving Inhabited
def GBill.cells (x:GBill):List D:=[.int .i64 x.Drawer,.int .i64 x.Drawee,.int .i64 x.Payee,.int .i64 x.Sum,.int .i64 x.Currency,.int .i64 x.Tenor.Kind,.int .i64 x.Tenor.N,.int .i64 x.Tenor.Unit,.int .i64 x.Day,.int .i64 x.City,.int .i64 x.Pay,.int .i64 x.Need,.int .i64 x.Rate,.int .i64 x.Flags,.int .i64 x.Parts]
theorem GBill.sized (xs:List GBill):sized 15 (cM GBill.cells xs) = true:=sized_cM _ _ (fun x=>by rfl) xs
theorem GBill.len (x:GBill):(GBill.cells x).length = 15:=rfl
theorem GBill.size {β:Type} (x:GBill) (y:Option β):sizeK (GBill.cells x) 15 y = y:=rfl
theorem GBill.eq1 {β:Type} (x:GBill) (ks:List Nat) (ys:List V) (k:Bool→Option β):eqCK ks (dcells (GBill.cells x)) ys k = eqCK ks [.d (.int .i64 x.Drawer),.d (.int .i64 x.Drawee),.d (.int .i64 x.Payee),.d (.int .i64 x.Sum),.d (.int .i64 x.Currency),.d (.int .i64 x.Tenor.Kind),.d (.int .i64 x.Tenor.N),.d (.int .i64 x.Tenor.Unit),.d (.int .i64 x.Day),.d (.int .i64 x.City),.d (.int .i64 x.Pay),.d (.int .i64 x.Need),.d (.int .i64 x.Rate),.d (.int .i64 x.Flags),.d (.int .i64 x.Parts)] ys k:=rfl
theorem GBill.eq2 {β:Type} (x:GBill) (ks:List Nat) (ys:List V) (k:Bool→Option β):eqCK ks ys (dcells (GBill.cells x)) k = eqCK ks ys [.d (.int .i64 x.Drawer),.d (.int .i64 x.Drawee),.d (.int .i64 x.Payee),.d (.int .i64 x.Sum),.d (.int .i64 x.Currency),.d (.int .i64 x.Tenor.Kind),.d (.int .i64 x.Tenor.N),.d (.int .i64 x.Tenor.Unit),.d (.int .i64 x.Day),.d (.int .i64 x.City),.d (.int .i64 x.Pay),.d (.int .i64 x.Need),.d (.int .i64 x.Rate),.d (.int .i64 x.Flags),.d (.int .i64 x.Parts)] k:=rfl
theorem GBill.lens {β:Type} (x:GBill) (y:Option β):lenIs (dcells (GBill.cells x)) 15 y = y:=rfl
theorem GBill.vsets {β:Type} (x:GBill) (z:List V) (o:Nat) (k:List V→Option β):vsetsK z o (dcells (GBill.cells x)) k = vsetsK z o [.d (.int .i64 x.Drawer),.d (.int .i64 x.Drawee),.d (.int .i64 x.Payee),.d (.int .i64 x.Sum),.d (.int .i64 x.Currency),.d (.int .i64 x.Tenor.Kind),.d (.int .i64 x.Tenor.N),.d (.int .i64 x.Tenor.Unit),.d (.int .i64 x.Day),.d (.int .i64 x.City),.d (.int .i64 x.Pay),.d (.int .i64 x.Need),.d (.int .i64 x.Rate),.d (.int .i64 x.Flags),.d (.int .i64 x.Parts)] k:=rfl
theorem GBill.st_d {β:Type} (x:GBill) (y:D) (sz off id:Nat) (kw:V→List (Nat × Option Blk)→Option β):storeBK sz off id (.d y) (some (.box (dcells (GBill.cells x)))) kw = storeBK sz off id (.d y) (some (.box [.d (.int .i64 x.Drawer),.d (.int .i64 x.Drawee),.d (.int .i64 x.Payee),.d (.int .i64 x.Sum),.d (.int .i64 x.Currency),.d (.int .i64 x.Tenor.Kind),.d (.int .i64 x.Tenor.N),.d (.int .i64 x.Tenor.Unit),.d (.int .i64 x.Day),.d (.int .i64 x.City),.d (.int .i64 x.Pay),.d (.int .i64 x.Need),.d (.int .i64 x.Rate),.d (.int .i64 x.Flags),.d (.int .i64 x.Parts)])) kw:=rfl
theorem GBill.st_nil {β:Type} (x:GBill)  (sz off id:Nat) (kw:V→List (Nat × Option Blk)→Option β):storeBK sz off id .nil (some (.box (dcells (GBill.cells x)))) kw = storeBK sz off id .nil (some (.box [.d (.int .i64 x.Drawer),.d (.int .i64 x.Drawee),.d (.int .i64 x.Payee),.d (.int .i64 x.Sum),.d (.int .i64 x.Currency),.d (.int .i64 x.Tenor.Kind),.d (.int .i64 x.Tenor.N),.d (.int .i64 x.Tenor.Unit),.d (.int .i64 x.Day),.d (.int .i64 x.City),.d (.int .i64 x.Pay),.d (.int .i64 x.Need),.d (.int .i64 x.Rate),.d (.int .i64 x.Flags),.d (.int .i64 x.Parts)])) kw:=rfl
theorem GBill.st_own {β:Type} (x:GBill) (i v:Nat) (sz off id:Nat) (kw:V→List (Nat × Option Blk)→Option β):storeBK sz off id (.own i v) (some (.box (dcells (GBill.cells x)))) kw = storeBK sz off id (.own i v) (some (.box [.d (.int .i64 x.Drawer),.d (.int .i64 x.Drawee),.d (.int .i64 x.Payee),.d (.int .i64 x.Sum),.d (.int .i64 x.Currency),.d (.int .i64 x.Tenor.Kind),.d (.int .i64 x.Tenor.N),.d (.int .i64 x.Tenor.Unit),.d (.int .i64 x.Day),.d (.int .i64 x.City),.d (.int .i64 x.Pay),.d (.int .i64 x.Need),.d (.int .i64 x.Rate),.d (.int .i64 x.Flags),.d (.int .i64 x.Parts)])) kw:=rfl
theorem GBill.st_agg {β:Type} (x:GBill) (y:List V) (sz off id:Nat) (kw:V→List (Nat × Option Blk)→Option β):storeBK sz off id (.agg y) (some (.box (dcells (GBill.cells x)))) kw = storeBK sz off id (.agg y) (some (.box [.d (.int .i64 x.Drawer),.d (.int .i64 x.Drawee),.d (.int .i64 x.Payee),.d (.int .i64 x.Sum),.d (.int .i64 x.Currency),.d (.int .i64 x.Tenor.Kind),.d (.int .i64 x.Tenor.N),.d (.int .i64 x.Tenor.Unit),.d (.int .i64 x.Day),.d (.int .i64 x.City),.d (.int .i64 x.Pay),.d (.int .i64 x.Need),.d (.int .i64 x.Rate),.d (.int .i64 x.Flags),.d (.int .i64 x.Parts)])) kw:=rfl
theorem GBill.st_ptr {β:Type} (x:GBill) (i v:Nat) (sz off id:Nat) (kw:V→List (Nat × Option Blk)→Option β):storeBK sz off id (.ptr i v) (some (.box (dcells (GBill.cells x)))) kw = storeBK sz off id (.ptr i v) (some (.box [.d (.int .i64 x.Drawer),.d (.int .i64 x.Drawee),.d (.int .i64 x.Payee),.d (.int .i64 x.Sum),.d (.int .i64 x.Currency),.d (.int .i64 x.Tenor.Kind),.d (.int .i64 x.Tenor.N),.d (.int .i64 x.Tenor.Unit),.d (.int .i64 x.Day),.d (.int .i64 x.City),.d (.int .i64 x.Pay),.d (.int .i64 x.Need),.d (.int .i64 x.Rate),.d (.int .i64 x.Flags),.d (.int .i64 x.Parts)])) kw:=rfl
theorem GBill.part {β:Type} (x:GBill) (off id:Nat) (b:Option Blk) (kw:V→List (Nat × Option Blk)→Option β):storeBK 15 (off + 1) id (aggD (GBill.cells x)) b kw = storeBK 15 (off + 1) id (.agg [.d (.int .i64 x.Drawer),.d (.int .i64 x.Drawee),.d (.int .i64 x.Payee),.d (.int .i64 x.Sum),.d (.int .i64 x.Currency),.d (.int .i64 x.Tenor.Kind),.d (.int .i64 x.Tenor.N),.d (.int .i64 x.Tenor.Unit),.d (.int .i64 x.Day),.d (.int .i64 x.City),.d (.int .i64 x.Pay),.d (.int .i64 x.Need),.d (.int .i64 x.Rate),.d (.int .i64 x.Flags),.d (.int .i64 x.Parts)]) b kw:=rfl
theorem GBill.put {β:Type} (x:GBill) (id:Nat) (cs:List V) (hc:cs.length = 15) (kw:V→List (Nat × Option Blk)→Option β):storeBK 15 0 id (aggD (GBill.cells x)) (some (.box cs)) kw = kw .any [(id,some (.box (dcells (GBill.cells x))))]:=storeBK_packed 15 id _ rfl cs hc
theorem GBill.rset {β:Type} (x:GBill) (off:Nat) (d:D) (ds:List D) (n:Nat) (k:List D→Option β):rowSetK (GBill.cells x) off (d :: ds) n k = rowSetK [.int .i64 x.Drawer,.int .i64 x.Drawee,.int .i64 x.Payee,.int .i64 x.Sum,.int .i64 x.Currency,.int .i64 x.Tenor.Kind,.int .i64 x.Tenor.N,.int .i64 x.Tenor.Unit,.int .i64 x.Day,.int .i64 x.City,.int .i64 x.Pay,.int .i64 x.Need,.int .i64 x.Rate,.int .i64 x.Flags,.int .i64 x.Parts] off (d :: ds) n k:=rfl
theorem GBill.rfull {β:Type} (x y:GBill) (k:List D→Option β):rowSetK (GBill.cells x) 0 (GBill.cells y) 15 k = k (GBill.cells y):=by unfold rowSetK; exact (if_pos ⟨rfl,Nat.le_refl _⟩).trans rfl
theorem GBill.get0 {β:Type} (x:GBill) (k:D→Option β):dgetK (GBill.cells x) 0 k = k (.int .i64 x.Drawer):=rfl
theorem GBill.get1 {β:Type} (x:GBill) (k:D→Option β):dgetK (GBill.cells x) 1 k = k (.int .i64 x.Drawee):=rfl
theorem GBill.get2 {β:Type} (x:GBill) (k:D→Option β):dgetK (GBill.cells x) 2 k = k (.int .i64 x.Payee):=rfl
theorem GBill.get3 {β:Type} (x:GBill) (k:D→Option β):dgetK (GBill.cells x) 3 k = k (.int .i64 x.Sum):=rfl
theorem GBill.get4 {β:Type} (x:GBill) (k:D→Option β):dgetK (GBill.cells x) 4 k = k (.int .i64 x.Currency):=rfl
theorem GBill.get5 {β:Type} (x:GBill) (k:D→Option β):dgetK (GBill.cells x) 5 k = k (.int .i64 x.Tenor.Kind):=rfl
theorem GBill.get6 {β:Type} (x:GBill) (k:D→Option β):dgetK (GBill.cells x) 6 k = k (.int .i64 x.Tenor.N):=rfl
theorem GBill.get7 {β:Type} (x:GBill) (k:D→Option β):dgetK (GBill.cells x) 7 k = k (.int .i64 x.Tenor.Unit):=rfl
theorem GBill.get8 {β:Type} (x:GBill) (k:D→Option β):dgetK (GBill.cells x) 8 k = k (.int .i64 x.Day):=rfl
theorem GBill.get9 {β:Type} (x:GBill) (k:D→Option β):dgetK (GBill.cells x) 9 k = k (.int .i64 x.City):=rfl
theorem GBill.get10 {β:Type} (x:GBill) (k:D→Option β):dgetK (GBill.cells x) 10 k = k (.int .i64 x.Pay):=rfl
theorem GBill.get11 {β:Type} (x:GBill) (k:D→Option β):dgetK (GBill.cells x) 11 k = k (.int .i64 x.Need):=rfl
theorem GBill.get12 {β:Type} (x:GBill) (k:D→Option β):dgetK (GBill.cells x) 12 k = k (.int .i64 x.Rate):=rfl
theorem GBill.get13 {β:Type} (x:GBill) (k:D→Option β):dgetK (GBill.cells x) 13 k = k (.int .i64 x.Flags):=rfl
theorem GBill.get14 {β:Type} (x:GBill) (k:D→Option β):dgetK (GBill.cells x) 14 k = k (.int .i64 x.Parts):=rfl
theorem GBill.sub0_15 {β:Type} (x:GBill) (k:List D→Option β):dsubK (GBill.cells x) 0 15 k = k (GBill.cells x):=rfl
theorem GBill.sub5_3 {β:Type} (x:GBill) (k:List D→Option β):dsubK (GBill.cells x) 5 3 k = k (GTenor.cells x.Tenor):=rfl
theorem GBill.cells_mk (f0:Int) (f1:Int) (f2:Int) (f3:Int) (f4:Int) (f5:GTenor) (f6:Int) (f7:Int) (f8:Int) (f9:Int) (f10:Int) (f11:Int) (f12:Int):GBill.cells (GBill.mk f0 f1 f2 f3 f4 f5 f6 f7 f8 f9 f10 f11 f12) = [.int .i64 f0,.int .i64 f1,.int .i64 f2,.int .i64 f3,.int .i64 f4,.int .i64 f5.Kind,.int .i64 f5.N,.int .i64 f5.Unit,.int .i64 f6,.int .i64 f7,.int .i64 f8,.int .i64 f9,.int .i64 f10,.int .i64 f11,.int .i64 f12]:=rfl
structure GArr2I where
 e0:Int
 e1:Int
 deriving Inhabited
def GArr2I.cells (x:GArr2I):List D:=[.int .i64 x.e0,.int .i64 x.e1]
theorem GArr2I.sized (xs:List GArr2I):sized 2 (cM GArr2I.cells xs) = true:=sized_cM _ _ (fun x=>by rfl) xs
theorem GArr2I.len (x:GArr2I):(GArr2I.cells x).length = 2:=rfl
theorem GArr2I.size {β:Type} (x:GArr2I) (y:Option β):sizeK (GArr2I.cells x) 2 y = y:=rfl
theorem GArr2I.eq1 {β:Type} (x:GArr2I) (ks:List Nat) (ys:List V) (k:Bool→Option β):eqCK ks (dcells (GArr2I.cells x)) ys k = eqCK ks [.d (.int .i64 x.e0),.d (.int .i64 x.e1)] ys k:=rfl
theorem GArr2I.eq2 {β:Type} (x:GArr2I) (ks:List Nat) (ys:List V) (k:Bool→Option β):eqCK ks ys (dcells (GArr2I.cells x)) k = eqCK ks ys [.d (.int .i64 x.e0),.d (.int .i64 x.e1)] k:=rfl
theorem GArr2I.lens {β:Type} (x:GArr2I) (y:Option β):lenIs (dcells (GArr2I.cells x)) 2 y = y:=rfl
theorem GArr2I.vsets {β:Type} (x:GArr2I) (z:List V) (o:Nat) (k:List V→Option β):vsetsK z o (dcells (GArr2I.cells x)) k = vsetsK z o [.d (.int .i64 x.e0),.d (.int .i64 x.e1)] k:=rfl
theorem GArr2I.st_d {β:Type} (x:GArr2I) (y:D) (sz off id:Nat) (kw:V→List (Nat × Option Blk)→Option β):storeBK sz off id (.d y) (some (.box (dcells (GArr2I.cells x)))) kw = storeBK sz off id (.d y) (some (.box [.d (.int .i64 x.e0),.d (.int .i64 x.e1)])) kw:=rfl
theorem GArr2I.st_nil {β:Type} (x:GArr2I)  (sz off id:Nat) (kw:V→List (Nat × Option Blk)→Option β):storeBK sz off id .nil (some (.box (dcells (GArr2I.cells x)))) kw = storeBK sz off id .nil (some (.box [.d (.int .i64 x.e0),.d (.int .i64 x.e1)])) kw:=rfl
theorem GArr2I.st_own {β:Type} (x:GArr2I) (i v:Nat) (sz off id:Nat) (kw:V→List (Nat × Option Blk)→Option β):storeBK sz off id (.own i v) (some (.box (dcells (GArr2I.cells x)))) kw = storeBK sz off id (.own i v) (some (.box [.d (.int .i64 x.e0),.d (.int .i64 x.e1)])) kw:=rfl
theorem GArr2I.st_agg {β:Type} (x:GArr2I) (y:List V) (sz off id:Nat) (kw:V→List (Nat × Option Blk)→Option β):storeBK sz off id (.agg y) (some (.box (dcells (GArr2I.cells x)))) kw = storeBK sz off id (.agg y) (some (.box [.d (.int .i64 x.e0),.d (.int .i64 x.e1)])) kw:=rfl
theorem GArr2I.st_ptr {β:Type} (x:GArr2I) (i v:Nat) (sz off id:Nat) (kw:V→List (Nat × Option Blk)→Option β):storeBK sz off id (.ptr i v) (some (.box (dcells (GArr2I.cells x)))) kw = storeBK sz off id (.ptr i v) (some (.box [.d (.int .i64 x.e0),.d (.int .i64 x.e1)])) kw:=rfl
theorem GArr2I.part {β:Type} (x:GArr2I) (off id:Nat) (b:Option Blk) (kw:V→List (Nat × Option Blk)→Option β):storeBK 2 (off + 1) id (aggD (GArr2I.cells x)) b kw = storeBK 2 (off + 1) id (.agg [.d (.int .i64 x.e0),.d (.int .i64 x.e1)]) b kw:=rfl
theorem GArr2I.put {β:Type} (x:GArr2I) (id:Nat) (cs:List V) (hc:cs.length = 2) (kw:V→List (Nat × Option Blk)→Option β):storeBK 2 0 id (aggD (GArr2I.cells x)) (some (.box cs)) kw = kw .any [(id,some (.box (dcells (GArr2I.cells x))))]:=storeBK_packed 2 id _ rfl cs hc
theorem GArr2I.rset {β:Type} (x:GArr2I) (off:Nat) (d:D) (ds:List D) (n:Nat) (k:List D→Option β):rowSetK (GArr2I.cells x) off (d :: ds) n k = rowSetK [.int .i64 x.e0,.int .i64 x.e1] off (d :: ds) n k:=rfl
theorem GArr2I.rfull {β:Type} (x y:GArr2I) (k:List D→Option β):rowSetK (GArr2I.cells x) 0 (GArr2I.cells y) 2 k = k (GArr2I.cells y):=by unfold rowSetK; exact (if_pos ⟨rfl,Nat.le_refl _⟩).trans rfl
theorem GArr2I.get0 {β:Type} (x:GArr2I) (k:D→Option β):dgetK (GArr2I.cells x) 0 k = k (.int .i64 x.e0):=rfl
theorem GArr2I.get1 {β:Type} (x:GArr2I) (k:D→Option β):dgetK (GArr2I.cells x) 1 k = k (.int .i64 x.e1):=rfl
theorem GArr2I.sub0_2 {β:Type} (x:GArr2I) (k:List D→Option β):dsubK (GArr2I.cells x) 0 2 k = k (GArr2I.cells x):=rfl
theorem GArr2I.cells_mk (f0:Int) (f1:Int):GArr2I.cells (GArr2I.mk f0 f1) = [.int .i64 f0,.int .i64 f1]:=rfl
theorem get_cI {β:Type} (x:Int) (k:D→Option β):dgetK (cI x) 0 k = k (.int .i64 x):=rfl
theorem rset_cI {β:Type} (x:Int) (off:Nat) (d:D) (ds:List D) (n:Nat) (k:List D→Option β):rowSetK (cI x) off (d :: ds) n k = rowSetK [.int .i64 x] off (d :: ds) n k:=rfl
theorem size_cI {β:Type} (x:Int) (y:Option β):sizeK (cI x) 1 y = y:=rfl
theorem get_cB {β:Type} (x:Bool) (k:D→Option β):dgetK (cB x) 0 k = k (.bool x):=rfl
theorem rset_cB {β:Type} (x:Bool) (off:Nat) (d:D) (ds:List D) (n:Nat) (k:List D→Option β):rowSetK (cB x) off (d :: ds) n k = rowSetK [.bool x] off (d :: ds) n k:=rfl
theorem size_cB {β:Type} (x:Bool) (y:Option β):sizeK (cB x) 1 y = y:=rfl
theorem get_cS {β:Type} (x:ByteArray) (k:D→Option β):dgetK (cS x) 0 k = k (.str x):=rfl
theorem rset_cS {β:Type} (x:ByteArray) (off:Nat) (d:D) (ds:List D) (n:Nat) (k:List D→Option β):rowSetK (cS x) off (d :: ds) n k = rowSetK [.str x] off (d :: ds) n k:=rfl
theorem size_cS {β:Type} (x:ByteArray) (y:Option β):sizeK (cS x) 1 y = y:=rfl
theorem size_c1 {β:Type} (x0:D) (y:Option β):sizeK [x0] 1 y = y:=rfl
theorem size_c2 {β:Type} (x0 x1:D) (y:Option β):sizeK [x0,x1] 2 y = y:=rfl
theorem size_c3 {β:Type} (x0 x1 x2:D) (y:Option β):sizeK [x0,x1,x2] 3 y = y:=rfl
theorem size_c4 {β:Type} (x0 x1 x2 x3:D) (y:Option β):sizeK [x0,x1,x2,x3] 4 y = y:=rfl
theorem size_c5 {β:Type} (x0 x1 x2 x3 x4:D) (y:Option β):sizeK [x0,x1,x2,x3,x4] 5 y = y:=rfl
theorem size_c6 {β:Type} (x0 x1 x2 x3 x4 x5:D) (y:Option β):sizeK [x0,x1,x2,x3,x4,x5] 6 y = y:=rfl
theorem size_c8 {β:Type} (x0 x1 x2 x3 x4 x5 x6 x7:D) (y:Option β):sizeK [x0,x1,x2,x3,x4,x5,x6,x7] 8 y = y:=rfl
theorem size_c15 {β:Type} (x0 x1 x2 x3 x4 x5 x6 x7 x8 x9 x10 x11 x12 x13 x14:D) (y:Option β):sizeK [x0,x1,x2,x3,x4,x5,x6,x7,x8,x9,x10,x11,x12,x13,x14] 15 y = y:=rfl
theorem get_cK {β:Type} (i:IntKind) (x:Int) (k:D→Option β):dgetK (cK i x) 0 k = k (.int i x):=rfl
theorem rset_cK {β:Type} (i:IntKind) (x:Int) (off:Nat) (d:D) (ds:List D) (n:Nat) (k:List D→Option β):rowSetK (cK i x) off (d :: ds) n k = rowSetK [.int i x] off (d :: ds) n k:=rfl
theorem rset_cL {β α:Type} (c:α→List D) (x:List α) (off:Nat) (d:D) (ds:List D) (n:Nat) (k:List D→Option β):rowSetK (cL c x) off (d :: ds) n k = rowSetK [.sl (cM c x)] off (d :: ds) n k:=rfl
theorem size_cK {β:Type} (i:IntKind) (x:Int) (y:Option β):sizeK (cK i x) 1 y = y:=rfl
theorem get_cL {β α:Type} (c:α→List D) (x:List α) (k:D→Option β):dgetK (cL c x) 0 k = k (.sl (cM c x)):=rfl
theorem size_cL {β α:Type} (c:α→List D) (x:List α) (y:Option β):sizeK (cL c x) 1 y = y:=rfl
theorem pull_row_102_l {β:Type} (a0_0:Int) (a0_1:Int) (a0_2:Int) (k:List (List D)→Option β):bsK 102 [[.int .i64 a0_0,.int .i64 a0_1,.int .i64 a0_2]] k = k (cM GHalt.cells ([(GHalt.mk a0_0 a0_1 a0_2)]:List GHalt)):=rfl
theorem pull_row_3_ {β:Type} (k:List (List D)→Option β):bsK 3 [] k = k (cM cI ([]:List Int)):=rfl
theorem pull_row_3_ll {β:Type} (a0:Int) (a1:Int) (k:List (List D)→Option β):bsK 3 [[.int .i64 a0],[.int .i64 a1]] k = k (cM cI ([a0,a1]:List Int)):=rfl
theorem pull_row_3_l {β:Type} (a0:Int) (k:List (List D)→Option β):bsK 3 [[.int .i64 a0]] k = k (cM cI ([a0]:List Int)):=rfl
theorem pull_row_73_l2_3 {β:Type} (a0_0:ByteArray) (a0_1:Bool) (k:List (List D)→Option β):bsK 73 [[.str a0_0,.bool a0_1,.sl [],.sl []]] k = k (cM GOrder.cells ([(GOrder.mk a0_0 a0_1 [] [])]:List GOrder)):=rfl
theorem pull_row_78_l4_5 {β:Type} (a0_0:ByteArray) (a0_1:Int) (a0_2:Int) (a0_3:List Int) (k:List (List D)→Option β):bsK 78 [[.str a0_0,.int .i64 a0_1,.int .i64 a0_2,.sl (cM cI a0_3),.sl [],.sl []]] k = k (cM GCity.cells ([(GCity.mk a0_0 a0_1 a0_2 a0_3 [] [])]:List GCity)):=rfl
theorem pull_row_9_ {β:Type} (k:List (List D)→Option β):bsK 9 [] k = k (cM cS ([]:List ByteArray)):=rfl
theorem pull_row_9_l {β:Type} (a0:ByteArray) (k:List (List D)→Option β):bsK 9 [[.str a0]] k = k (cM cS ([a0]:List ByteArray)):=rfl
/- all rules as one -/
set_option linter.defProp false
def DN:=And.intro (And.intro (And.intro (And.intro (And.intro (And.intro (And.intro (And.intro (@finO_n) (And.intro (@finO_r) (@finO_e))) (And.intro (@resO_nil) (And.intro (@resO_tmp) (@resO_cell)))) (And.intro (And.intro (@packV_1) (And.intro (@packV_2) (@evK_seq))) (And.intro (And.intro (@evK_region) (@evF_draw)) (And.intro (@evF_cond) (@opsDF_cons))))) (And.intro (And.intro (And.intro (@opsDF_cons0) (And.intro (@opsDF_nil) (@opsDF_guard))) (And.intro (@guardDL_b) (And.intro (@endD_ok) (@idsK_d)))) (And.intro (And.intro (@idsK_nil) (And.intro (@idsK_any) (@idsK_ptr))) (And.intro (And.intro (@idsK_own) (@idsK_orow)) (And.intro (@didsCK_nil) (@didsCK_d)))))) (And.intro (And.intro (And.intro (And.intro (@didsCK_n) (And.intro (@didsCK_any) (@didsCK_own))) (And.intro (@didsCK_ptr) (And.intro (@didsK_d) (@didsK_nil)))) (And.intro (And.intro (@didsK_own) (And.intro (@didsK_agg) (@didsK_aggD))) (And.intro (And.intro (@didsK_ptr) (@bidsCK_nil)) (And.intro (@bidsCK_d) (@bidsCK_n))))) (And.intro (And.intro (And.intro (@bidsCK_any) (And.intro (@bidsCK_own) (@bidsCK_ptr))) (And.intro (@bidsK_box) (And.intro (@bidsK_packed) (@bidsK_fbox)))) (And.intro (And.intro (@bidsK_none) (And.intro (@fpK_fail) (@fpK_move))) (And.intro (And.intro (@fpK_pick) (@fpK_alloc)) (And.intro (@fpK_box) (@fpK_build))))))) (And.intro (And.intro (And.intro (And.intro (And.intro (@fpK_makeSlice) (And.intro (@fpK_load) (@fpK_nilCheck))) (And.intro (@fpK_fieldAddr) (And.intro (@fpK_len) (@fpK_slice)))) (And.intro (And.intro (@fpK_indexAddr) (And.intro (@fpK_store) (@fpK_append))) (And.intro (And.intro (@deepsK_nil) (@deepsK_cons)) (And.intro (@fpK_call) (@fpK_mkfn))))) (And.intro (And.intro (And.intro (@fpK_callv) (And.intro (@deepsP_nil) (@deepsP_cons))) (And.intro (@widsK_nil) (And.intro (@widsK_c) (@widsK_an)))) (And.intro (And.intro (@widsK_ac) (And.intro (@widsK_aa) (@fpK_buildSlice))) (And.intro (And.intro (@fpK_bin) (@fpK_eqS)) (And.intro (@fpK_un) (@fpK_conv)))))) (And.intro (And.intro (And.intro (And.intro (@fpK_strSlice) (And.intro (@fpK_field) (@fpK_index))) (And.intro (@fpK_lenS) (And.intro (@fpK_max) (@fpK_min)))) (And.intro (And.intro (@fpK_extract) (And.intro (@opK_mkfn) (@capsF_nil))) (And.intro (And.intro (@capsF_cons) (@opK_callv)) (And.intro (@callvK_f) (@argsV_nil))))) (And.intro (And.intro (And.intro (@argsV_cons) (And.intro (@d1K_ptr) (@d1P_box))) (And.intro (And.intro (@d1P_packed) (@d1P_fbox)) (And.intro (@rowC0K_nil) (@rowC0K_d)))) (And.intro (And.intro (@rowC0K_n) (And.intro (@rowC0K_own) (@rowC0K_dcells))) (And.intro (And.intro (@rowCK_ptr) (@toDK_ptr)) (And.intro (@loadBK_ft) (@loadBK_ff)))))))) (And.intro (And.intro (And.intro (And.intro (And.intro (And.intro (@dgetL_z) (And.intro (@dgetL_s) (@normPK_fbox))) (And.intro (@normBK_fbox) (And.intro (@opK_bytes) (@bytesK_s)))) (And.intro (And.intro (@fpK_bytes) (And.intro (@frTK_d) (@frTK_nil))) (And.intro (And.intro (@frTK_any) (@frTK_own)) (And.intro (@frOK_rows) (@frOK_froz))))) (And.intro (And.intro (And.intro (@maskK_ft) (And.intro (@maskK_fc) (@frCK_box))) (And.intro (@frCK_none) (And.intro (@evK_block) (@evK_ret)))) (And.intro (And.intro (@evK_exit) (And.intro (@evK_skip) (@evF_pre))) (And.intro (And.intro (@evK_post) (@seqK_n)) (And.intro (@seqK_e) (@seqK_r)))))) (And.intro (And.intro (And.intro (And.intro (@blockK_n) (And.intro (@blockK_e) (@blockK_r))) (And.intro (@postF_n) (And.intro (@postK_e) (@postK_r)))) (And.intro (And.intro (@opsF_cons) (And.intro (@opsF_cons0) (@opsF_guard))) (And.intro (And.intro (@opsK_nil) (@guardL_b)) (And.intro (@condK_t) (@condK_f))))) (And.intro (And.intro (And.intro (@condK_bool) (And.intro (@getK_hit) (@getK_miss))) (And.intro (@getK_nil) (And.intro (@blkK_hit) (@blkK_miss)))) (And.intro (And.intro (@blkK_nil) (And.intro (@blkK_an) (@blkK_ac))) (And.intro (And.intro (@blkK_aa) (@opdK_t)) (And.intro (@opdK_c) (@opK_fail))))))) (And.intro (And.intro (And.intro (And.intro (And.intro (@opK_move) (And.intro (@opK_pick) (@opK_alloc))) (And.intro (@opK_box) (And.intro (@opF_build) (@opK_load)))) (And.intro (And.intro (@opK_store) (And.intro (@opK_nilCheck) (@opK_bin))) (And.intro (And.intro (@opF_eqS) (@eqSK_aat)) (And.intro (@eqSK_aaf) (@eqSK_pat))))) (And.intro (And.intro (And.intro (@eqSK_paf) (And.intro (@eqSK_apt) (@eqSK_apf))) (And.intro (@eqSK_ppt) (And.intro (@eqSK_ppf) (@eqCK_i1)))) (And.intro (And.intro (@eqCK_b1) (And.intro (@eqCK_s1) (@eqCK_i))) (And.intro (And.intro (@eqCK_b) (@eqCK_s)) (And.intro (@opK_max) (@opK_min)))))) (And.intro (And.intro (And.intro (And.intro (@maxlK_i) (And.intro (@minlK_i) (@maxK_nil))) (And.intro (@minK_nil) (And.intro (@maxK_cons) (@minK_cons)))) (And.intro (And.intro (@guardL_u) (And.intro (@guardL_u0) (@guardDL_u))) (And.intro (And.intro (@guardDL_u0) (@normK_u)) (And.intro (@opK_un) (@opK_conv))))) (And.intro (And.intro (And.intro (@opF_len) (And.intro (@lenRK_c) (@lenRK_n))) (And.intro (And.intro (@opK_lenS) (@opK_fieldAddr)) (And.intro (@opK_field) (@opK_indexAddr)))) (And.intro (And.intro (@opK_index) (And.intro (@opK_slice) (@opK_append))) (And.intro (And.intro (@opK_buildSlice) (@opK_call)) (And.intro (@opK_extract) (@noneK_n))))))))) (And.intro (And.intro (And.intro (And.intro (And.intro (And.intro (And.intro (@noneK_s) (And.intro (@cellsK_d) (@cellsK_nil))) (And.intro (@cellsK_agg) (And.intro (@cellsK_aggD) (@cellsK_ptr)))) (And.intro (And.intro (@cellsK_own) (And.intro (@cellsK_orow) (@cellsK_any))) (And.intro (And.intro (@opdsK_nil) (@opdsK_cons)) (And.intro (@partsK_nil) (@partsK_cons))))) (And.intro (And.intro (And.intro (@fillF_nil) (And.intro (@fillF_cons) (@vgetK_z))) (And.intro (@vgetK_s) (And.intro (@vgetK_d) (@vsubK_all)))) (And.intro (And.intro (@vsubK_drop) (And.intro (@vsubK_take) (@vsubK_zero))) (And.intro (And.intro (@vsubK_d) (@loadK_ptr)) (And.intro (@loadK_dt) (@loadK_df)))))) (And.intro (And.intro (And.intro (And.intro (@loadK_o) (And.intro (@loadBK_c) (@loadBK_a))) (And.intro (@loadBK_p) (And.intro (@loadOK_rows) (@vsetK_z)))) (And.intro (And.intro (@vsetK_s) (And.intro (@vsetsK_drop) (@vsetsK_put))) (And.intro (And.intro (@vsetsK_nil) (@storeK_p)) (And.intro (@storeK_o) (@storeBK_d))))) (And.intro (And.intro (And.intro (@storeBK_nil) (And.intro (@storeBK_own) (@storeBK_ptr))) (And.intro (@lenIs_z) (And.intro (@lenIs_s) (@storeBK_agg)))) (And.intro (And.intro (@storeOF) (And.intro (@fzK_aa) (@fzN_nil))) (And.intro (And.intro (@fzN_c) (@fzN_app)) (And.intro (@rowSetK_drop) (@rowSetK_put))))))) (And.intro (And.intro (And.intro (And.intro (And.intro (@rowSetK_nil) (And.intro (@setRowsK_p) (@nilK_p))) (And.intro (@nilK_d) (And.intro (@nilK_o) (@orowK_r)))) (And.intro (And.intro (@faK_p) (And.intro (@faK_d) (@faK_o))) (And.intro (And.intro (@binK_add) (@binK_sub)) (And.intro (@binK_mul) (@binK_quo))))) (And.intro (And.intro (And.intro (@binK_rem) (And.intro (@binK_eql) (@binK_neq))) (And.intro (@binK_lss) (And.intro (@binK_leq) (@binK_gtr)))) (And.intro (And.intro (@binK_geq) (And.intro (@binK_and) (@binK_or))) (And.intro (And.intro (@binK_xor) (@binK_seql)) (And.intro (@binK_sneq) (@binK_slss)))))) (And.intro (And.intro (And.intro (And.intro (@binK_sleq) (And.intro (@binK_sgtr) (@binK_sgeq))) (And.intro (@binK_beql) (And.intro (@binK_bneq) (@valK_some)))) (And.intro (And.intro (@valK_none) (And.intro (@unK_not) (@unK_neg))) (And.intro (And.intro (@convK_i) (@rowsK_sl)) (And.intro (@rowsK_nil) (@rowsK_own))))) (And.intro (And.intro (And.intro (@rowsBK_rows) (And.intro (@rowsBK_froz) (@lenSK_s))) (And.intro (And.intro (@fieldK_c) (@fieldK_a)) (And.intro (@fieldK_pc) (@fieldK_pa)))) (And.intro (And.intro (@idxK_sl) (And.intro (@idxK_own) (@idxBK_rows))) (And.intro (And.intro (@idxBK_froz) (@idxSK_s)) (And.intro (@optK_n) (@optK_s)))))))) (And.intro (And.intro (And.intro (And.intro (And.intro (And.intro (@sliceK_nn) (And.intro (@sliceK_ln) (@sliceK_nh))) (And.intro (@sliceK_lh) (And.intro (@sliceK_own) (@sliceBK_ln)))) (And.intro (And.intro (@sliceBK_lh) (And.intro (@sliceBK_nn) (@sliceBK_nh))) (And.intro (And.intro (@sliceBF_ln) (@sliceBF_lh)) (And.intro (@sliceBF_nn) (@appK_sl))))) (And.intro (And.intro (And.intro (@appK_own) (And.intro (@appBK_rows) (@appBK_froz))) (And.intro (@appNK_nil) (And.intro (@appNK_own) (@appOK_rows)))) (And.intro (And.intro (@d1K_d) (And.intro (@d1K_nil) (@d1K_own))) (And.intro (And.intro (@d1B_rows) (@d1B_froz)) (And.intro (@rowCK_nil) (@rowCK_d)))))) (And.intro (And.intro (And.intro (And.intro (@rowCK_n) (And.intro (@rowCK_own) (@rowCK_dcells))) (And.intro (@toDK_d) (And.intro (@toDK_nil) (@toDK_own)))) (And.intro (And.intro (@toDK_agg) (And.intro (@toDK_aggD) (@rowK_d))) (And.intro (And.intro (@rowK_agg) (@rowK_aggD)) (And.intro (@rowK_nil) (@rowK_own))))) (And.intro (And.intro (And.intro (@setK_z) (And.intro (@setK_s) (@bsF_nil))) (And.intro (And.intro (@bsF_cons) (@argsF_nil)) (And.intro (@argsF_cons) (@fzK_nil)))) (And.intro (And.intro (@fzK_an) (And.intro (@fzK_ac) (@fzK_cons))) (And.intro (And.intro (@extK_t) (@liveK_nil)) (And.intro (@liveK_cons) (@keepK_nil))))))) (And.intro (And.intro (And.intro (And.intro (And.intro (@keepK_cons) (And.intro (@maskK_c) (@maskK_t))) (And.intro (@maskK_o) (And.intro (@mkTK_go) (@mkTK_x)))) (And.intro (And.intro (@mkTK_own) (And.intro (@mkTK_d) (@mkTK_any))) (And.intro (And.intro (@containsK_nil) (@containsK_hit)) (And.intro (@containsK_miss) (@normK_d))))) (And.intro (And.intro (And.intro (@normK_nil) (And.intro (@normK_any) (@normK_ptr))) (And.intro (@normPK_box) (And.intro (@normPK_none) (@normK_own)))) (And.intro (And.intro (@normOK_rows) (And.intro (@normOK_old) (@normOK_froz))) (And.intro (And.intro (@normOK_none) (@normK_orow)) (And.intro (@normWK_rows) (@normWK_old)))))) (And.intro (And.intro (And.intro (And.intro (@normCK_nil) (And.intro (@normCK_d) (@normCK_n))) (And.intro (@normCK_any) (And.intro (@normCK_own) (@normCK_ptr)))) (And.intro (And.intro (@normK_agg) (And.intro (@normK_aggD) (@normBK_none))) (And.intro (And.intro (@normBK_box) (@normBK_box0)) (And.intro (@normBK_packed) (@normBK_rows))))) (And.intro (And.intro (And.intro (@normBK_froz) (And.intro (@finR_n) (@finR_r))) (And.intro (And.intro (@finR_e) (@resF_nil)) (And.intro (@resF_tmp) (@resF_cell)))) (And.intro (And.intro (@packR_1) (And.intro (@packR_2) (@mkSK_i))) (And.intro (And.intro (@mkCK_box) (@mkCK_none)) (And.intro (@mkDK_z) (@mkDK_s)))))))))
def DR:=And.intro (And.intro (And.intro (And.intro (And.intro (And.intro (And.intro (And.intro (@GCity.size) (@GCity.eq1)) (And.intro (@GCity.eq2) (@GCity.lens))) (And.intro (And.intro (@GCity.vsets) (@GCity.st_d)) (And.intro (@GCity.st_nil) (And.intro (@GCity.st_own) (@GCity.st_agg))))) (And.intro (And.intro (And.intro (@GCity.st_ptr) (@GCity.part)) (And.intro (@GCity.put) (And.intro (@GCity.rset) (@GCity.rfull)))) (And.intro (And.intro (@GCity.get0) (@GCity.get1)) (And.intro (@GCity.get2) (And.intro (@GCity.get3) (@GCity.get4)))))) (And.intro (And.intro (And.intro (And.intro (@GCity.get5) (@GCity.sub0_6)) (And.intro (@GGroup.size) (@GGroup.eq1))) (And.intro (And.intro (@GGroup.eq2) (@GGroup.lens)) (And.intro (@GGroup.vsets) (And.intro (@GGroup.st_d) (@GGroup.st_nil))))) (And.intro (And.intro (And.intro (@GGroup.st_own) (@GGroup.st_agg)) (And.intro (@GGroup.st_ptr) (And.intro (@GGroup.part) (@GGroup.put)))) (And.intro (And.intro (@GGroup.rset) (@GGroup.rfull)) (And.intro (@GGroup.get0) (And.intro (@GGroup.sub0_1) (@GFirm.size))))))) (And.intro (And.intro (And.intro (And.intro (And.intro (@GFirm.eq1) (@GFirm.eq2)) (And.intro (@GFirm.lens) (@GFirm.vsets))) (And.intro (And.intro (@GFirm.st_d) (@GFirm.st_nil)) (And.intro (@GFirm.st_own) (And.intro (@GFirm.st_agg) (@GFirm.st_ptr))))) (And.intro (And.intro (And.intro (@GFirm.part) (@GFirm.put)) (And.intro (@GFirm.rset) (And.intro (@GFirm.rfull) (@GFirm.get0)))) (And.intro (And.intro (@GFirm.get1) (@GFirm.get2)) (And.intro (@GFirm.sub0_3) (And.intro (@GChoice.size) (@GChoice.eq1)))))) (And.intro (And.intro (And.intro (And.intro (@GChoice.eq2) (@GChoice.lens)) (And.intro (@GChoice.vsets) (@GChoice.st_d))) (And.intro (And.intro (@GChoice.st_nil) (@GChoice.st_own)) (And.intro (@GChoice.st_agg) (And.intro (@GChoice.st_ptr) (@GChoice.part))))) (And.intro (And.intro (And.intro (@GChoice.put) (@GChoice.rset)) (And.intro (@GChoice.rfull) (And.intro (@GChoice.get0) (@GChoice.get1)))) (And.intro (And.intro (@GChoice.get2) (@GChoice.sub0_3)) (And.intro (@GTerm.size) (And.intro (@GTerm.eq1) (@GTerm.eq2)))))))) (And.intro (And.intro (And.intro (And.intro (And.intro (And.intro (@GTerm.lens) (@GTerm.vsets)) (And.intro (@GTerm.st_d) (@GTerm.st_nil))) (And.intro (And.intro (@GTerm.st_own) (@GTerm.st_agg)) (And.intro (@GTerm.st_ptr) (And.intro (@GTerm.part) (@GTerm.put))))) (And.intro (And.intro (And.intro (@GTerm.rset) (@GTerm.rfull)) (And.intro (@GTerm.get0) (And.intro (@GTerm.get1) (@GTerm.get2)))) (And.intro (And.intro (@GTerm.sub0_3) (@GRule.size)) (And.intro (@GRule.eq1) (And.intro (@GRule.eq2) (@GRule.lens)))))) (And.intro (And.intro (And.intro (And.intro (@GRule.vsets) (@GRule.st_d)) (And.intro (@GRule.st_nil) (@GRule.st_own))) (And.intro (And.intro (@GRule.st_agg) (@GRule.st_ptr)) (And.intro (@GRule.part) (And.intro (@GRule.put) (@GRule.rset))))) (And.intro (And.intro (And.intro (@GRule.rfull) (@GRule.get0)) (And.intro (@GRule.get1) (And.intro (@GRule.get2) (@GRule.get3)))) (And.intro (And.intro (@GRule.sub0_4) (@GRule.sub1_3)) (And.intro (@GOrder.size) (And.intro (@GOrder.eq1) (@GOrder.eq2))))))) (And.intro (And.intro (And.intro (And.intro (And.intro (@GOrder.lens) (@GOrder.vsets)) (And.intro (@GOrder.st_d) (@GOrder.st_nil))) (And.intro (And.intro (@GOrder.st_own) (@GOrder.st_agg)) (And.intro (@GOrder.st_ptr) (And.intro (@GOrder.part) (@GOrder.put))))) (And.intro (And.intro (And.intro (@GOrder.rset) (@GOrder.rfull)) (And.intro (@GOrder.get0) (And.intro (@GOrder.get1) (@GOrder.get2)))) (And.intro (And.intro (@GOrder.get3) (@GOrder.sub0_4)) (And.intro (@GUsance.size) (And.intro (@GUsance.eq1) (@GUsance.eq2)))))) (And.intro (And.intro (And.intro (And.intro (@GUsance.lens) (@GUsance.vsets)) (And.intro (@GUsance.st_d) (And.intro (@GUsance.st_nil) (@GUsance.st_own)))) (And.intro (And.intro (@GUsance.st_agg) (@GUsance.st_ptr)) (And.intro (@GUsance.part) (And.intro (@GUsance.put) (@GUsance.rset))))) (And.intro (And.intro (And.intro (@GUsance.rfull) (@GUsance.get0)) (And.intro (@GUsance.get1) (And.intro (@GUsance.get2) (@GUsance.sub0_3)))) (And.intro (And.intro (@GRate.size) (@GRate.eq1)) (And.intro (@GRate.eq2) (And.intro (@GRate.lens) (@GRate.vsets))))))))) (And.intro (And.intro (And.intro (And.intro (And.intro (And.intro (And.intro (@GRate.st_d) (@GRate.st_nil)) (And.intro (@GRate.st_own) (@GRate.st_agg))) (And.intro (And.intro (@GRate.st_ptr) (@GRate.part)) (And.intro (@GRate.put) (And.intro (@GRate.rset) (@GRate.rfull))))) (And.intro (And.intro (And.intro (@GRate.get0) (@GRate.get1)) (And.intro (@GRate.get2) (And.intro (@GRate.get3) (@GRate.get4)))) (And.intro (And.intro (@GRate.sub0_5) (@GHalt.size)) (And.intro (@GHalt.eq1) (And.intro (@GHalt.eq2) (@GHalt.lens)))))) (And.intro (And.intro (And.intro (And.intro (@GHalt.vsets) (@GHalt.st_d)) (And.intro (@GHalt.st_nil) (@GHalt.st_own))) (And.intro (And.intro (@GHalt.st_agg) (@GHalt.st_ptr)) (And.intro (@GHalt.part) (And.intro (@GHalt.put) (@GHalt.rset))))) (And.intro (And.intro (And.intro (@GHalt.rfull) (@GHalt.get0)) (And.intro (@GHalt.get1) (And.intro (@GHalt.get2) (@GHalt.sub0_3)))) (And.intro (And.intro (@GRealm.size) (@GRealm.eq1)) (And.intro (@GRealm.eq2) (And.intro (@GRealm.lens) (@GRealm.vsets))))))) (And.intro (And.intro (And.intro (And.intro (And.intro (@GRealm.st_d) (@GRealm.st_nil)) (And.intro (@GRealm.st_own) (@GRealm.st_agg))) (And.intro (And.intro (@GRealm.st_ptr) (@GRealm.part)) (And.intro (@GRealm.put) (And.intro (@GRealm.rset) (@GRealm.rfull))))) (And.intro (And.intro (And.intro (@GRealm.get0) (@GRealm.get1)) (And.intro (@GRealm.get2) (And.intro (@GRealm.get3) (@GRealm.get4)))) (And.intro (And.intro (@GRealm.get5) (@GRealm.get6)) (And.intro (@GRealm.get7) (And.intro (@GRealm.sub0_8) (@GTenor.size)))))) (And.intro (And.intro (And.intro (And.intro (@GTenor.eq1) (@GTenor.eq2)) (And.intro (@GTenor.lens) (@GTenor.vsets))) (And.intro (And.intro (@GTenor.st_d) (@GTenor.st_nil)) (And.intro (@GTenor.st_own) (And.intro (@GTenor.st_agg) (@GTenor.st_ptr))))) (And.intro (And.intro (And.intro (@GTenor.part) (@GTenor.put)) (And.intro (@GTenor.rset) (And.intro (@GTenor.rfull) (@GTenor.get0)))) (And.intro (And.intro (@GTenor.get1) (@GTenor.get2)) (And.intro (@GTenor.sub0_3) (And.intro (@GBill.size) (@GBill.eq1)))))))) (And.intro (And.intro (And.intro (And.intro (And.intro (And.intro (@GBill.eq2) (@GBill.lens)) (And.intro (@GBill.vsets) (@GBill.st_d))) (And.intro (And.intro (@GBill.st_nil) (@GBill.st_own)) (And.intro (@GBill.st_agg) (And.intro (@GBill.st_ptr) (@GBill.part))))) (And.intro (And.intro (And.intro (@GBill.put) (@GBill.rset)) (And.intro (@GBill.rfull) (And.intro (@GBill.get0) (@GBill.get1)))) (And.intro (And.intro (@GBill.get2) (@GBill.get3)) (And.intro (@GBill.get4) (And.intro (@GBill.get5) (@GBill.get6)))))) (And.intro (And.intro (And.intro (And.intro (@GBill.get7) (@GBill.get8)) (And.intro (@GBill.get9) (@GBill.get10))) (And.intro (And.intro (@GBill.get11) (@GBill.get12)) (And.intro (@GBill.get13) (And.intro (@GBill.get14) (@GBill.sub0_15))))) (And.intro (And.intro (And.intro (@GBill.sub5_3) (@GArr2I.size)) (And.intro (@GArr2I.eq1) (And.intro (@GArr2I.eq2) (@GArr2I.lens)))) (And.intro (And.intro (@GArr2I.vsets) (@GArr2I.st_d)) (And.intro (@GArr2I.st_nil) (And.intro (@GArr2I.st_own) (@GArr2I.st_agg))))))) (And.intro (And.intro (And.intro (And.intro (And.intro (@GArr2I.st_ptr) (@GArr2I.part)) (And.intro (@GArr2I.put) (@GArr2I.rset))) (And.intro (And.intro (@GArr2I.rfull) (@GArr2I.get0)) (And.intro (@GArr2I.get1) (And.intro (@GArr2I.sub0_2) (@get_cI))))) (And.intro (And.intro (And.intro (@rset_cI) (@size_cI)) (And.intro (@get_cB) (And.intro (@rset_cB) (@size_cB)))) (And.intro (And.intro (@get_cS) (@rset_cS)) (And.intro (@size_cS) (And.intro (@size_c1) (@size_c2)))))) (And.intro (And.intro (And.intro (And.intro (@size_c3) (@size_c4)) (And.intro (@size_c5) (And.intro (@size_c6) (@size_c8)))) (And.intro (And.intro (@size_c15) (@get_cK)) (And.intro (@rset_cK) (And.intro (@rset_cL) (@size_cK))))) (And.intro (And.intro (And.intro (@get_cL) (@size_cL)) (And.intro (@pull_row_102_l) (And.intro (@pull_row_3_) (@pull_row_3_ll)))) (And.intro (And.intro (@pull_row_3_l) (@pull_row_73_l2_3)) (And.intro (@pull_row_78_l4_5) (And.intro (@pull_row_9_) (@pull_row_9_l)))))))))
def DQ:=And.intro (And.intro (And.intro (And.intro (And.intro (@GCity.len) (@GGroup.len)) (And.intro (@GFirm.len) (And.intro (@GChoice.len) (@GTerm.len)))) (And.intro (And.intro (@GRule.len) (@GOrder.len)) (And.intro (@GUsance.len) (And.intro (@GRate.len) (@GHalt.len))))) (And.intro (And.intro (And.intro (@GRealm.len) (@GTenor.len)) (And.intro (@GBill.len) (And.intro (@GArr2I.len) (@GCity.cells_mk)))) (And.intro (And.intro (@GGroup.cells_mk) (And.intro (@GFirm.cells_mk) (@GChoice.cells_mk))) (And.intro (@GTerm.cells_mk) (And.intro (@GRule.cells_mk) (@GOrder.cells_mk)))))) (And.intro (And.intro (And.intro (And.intro (@GUsance.cells_mk) (@GRate.cells_mk)) (And.intro (@GHalt.cells_mk) (And.intro (@GRealm.cells_mk) (@GTenor.cells_mk)))) (And.intro (And.intro (@GBill.cells_mk) (@GArr2I.cells_mk)) (And.intro (@GCity.sized) (And.intro (@GGroup.sized) (@GFirm.sized))))) (And.intro (And.intro (And.intro (@GChoice.sized) (@GTerm.sized)) (And.intro (@GRule.sized) (And.intro (@GOrder.sized) (@GUsance.sized)))) (And.intro (And.intro (@GRate.sized) (And.intro (@GHalt.sized) (@GRealm.sized))) (And.intro (@GTenor.sized) (And.intro (@GBill.sized) (@GArr2I.sized))))))
def DP:=And.intro (@Option.some.injEq) (And.intro (@Bool.and_true) (@List.cons_ne_nil))
end Go.Proofs.Ytibhbfhelfjloaa
